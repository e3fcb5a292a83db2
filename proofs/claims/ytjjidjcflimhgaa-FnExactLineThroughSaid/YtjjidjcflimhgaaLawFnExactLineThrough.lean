/- FnExactLineThrough: the walk. -/
import Derived.Test.YtjjidjcflimhgaaN2
import Derived.Test.YtjjidjcflimhgaaG
import Derived.Test.YtjjidjcflimhgaaReg2
import Derived.Test.YtjjidjcflimhgaaEq
set_option linter.unusedVariables false
set_option linter.unusedSimpArgs false
set_option maxHeartbeats 2000000
set_option maxRecDepth 100000
namespace Go.Proofs.Ytjjidjcflimhgaa.fnExactLineThrough
open Go.RowKit
theorem walk (p ax ay bx by_ : Int) (_ : (Lit.int .i64 p).wf = true) (_ : (Lit.int .i64 ax).wf = true) (_ : (Lit.int .i64 ay).wf = true) (_ : (Lit.int .i64 bx).wf = true) (_ : (Lit.int .i64 by_).wf = true) (w : World) : Calls Try.prog 4 #[.int .i64 p, .agg #[.int .i64 ax, .int .i64 ay], .agg #[.int .i64 bx, .int .i64 by_]] w fun e w' => e = .returned (.bool true) ∧ Below w.heap.size w w' := by
  go_enter Try.func4, Try.ntmps4
  go_wp2_with fail
  generalize hW : (World.alloc (World.alloc w (.cells #[.int .i64 ax, .int .i64 ay] 23)) (.cells #[.int .i64 bx, .int .i64 by_] 23)) = W
  have d00 : W.cell? ⟨w.heap.size, 0, none⟩ = some (.int .i64 ax) := by subst hW; go_simp
  have d01 : W.cell? ⟨w.heap.size, 1, none⟩ = some (.int .i64 ay) := by subst hW; go_simp
  have d10 : W.cell? ⟨w.heap.size + 1, 0, none⟩ = some (.int .i64 bx) := by subst hW; go_simp
  have d11 : W.cell? ⟨w.heap.size + 1, 1, none⟩ = some (.int .i64 by_) := by subst hW; go_simp
  have hB : Below w.heap.size w W := by subst hW; go_grown
  clear hW
  refine Reg.wp_region_store' (by kernel_rfl) 9 7 (#[.int .i64 0, .int .i64 0, .int .i64 0], 27) (.agg #[(.int .i64 ((Pl.ltOf p ax ay bx by_).1.1)), (.int .i64 ((Pl.ltOf p ax ay bx by_).1.2.1)), (.int .i64 ((Pl.ltOf p ax ay bx by_).1.2.2))]) (.int .i64 ((Pl.ltOf p ax ay bx by_).1.1)) [(.int .i64 ((Pl.ltOf p ax ay bx by_).1.2.1)), (.int .i64 ((Pl.ltOf p ax ay bx by_).1.2.2))] (by kernel_rfl) ?_ ?_ ?_
  · intro o ho ρ wz
    simp at ho; subst ho; rfl
  · intro o ho ρ wz g h0 h1 hb
    simp at ho; subst ho
    simp [Reg.dst] at h0 h1
    obtain ⟨z0, z1, z2, y0, y1, y2⟩ := Reg.blk3 hb
    refine ⟨(World.setCell (World.setCell (World.setCell wz ⟨g, 0, none⟩ (.int .i64 ((Pl.ltOf p ax ay bx by_).1.1))) ⟨g, 1, none⟩ (.int .i64 ((Pl.ltOf p ax ay bx by_).1.2.1))) ⟨g, 2, none⟩ (.int .i64 ((Pl.ltOf p ax ay bx by_).1.2.2))), ?_, ?_, fun B hBg => by go_grown⟩
    · go_simp
    · intro j v hj
      match j, hj with
      | 0, hj => (simp at hj; subst hj; simp [World.cell?_setCell_other, World.cell?_setCell_same, z0, z1, z2])
      | 1, hj => (simp at hj; subst hj; simp [World.cell?_setCell_other, World.cell?_setCell_same, z0, z1, z2])
      | 2, hj => (simp at hj; subst hj; simp [World.cell?_setCell_other, World.cell?_setCell_same, z0, z1, z2])
  simp only [List.take_succ_cons, List.take_zero, List.drop_succ_cons, List.drop_zero]
  refine Reg.wpG_step (v := ?vs27x0) (fun wq hq => ?gs27x0) ?ks27x0
  case gs27x0 => (have q0 := keepC hq d00; have q1 := keepC hq d01; have q2 := keepC hq d10; have q3 := keepC hq d11; refine Reg.gAt_val ?_; go_simp; first | done | (with_reducible rfl) | rfl)
  try simp only [Act.put, List.setIfInBounds_toArray, List.set_cons_zero, List.set_cons_succ]
  refine Reg.wpG_step (v := ?vs27x1) (fun wq hq => ?gs27x1) ?ks27x1
  case gs27x1 => (have q0 := keepC hq d00; have q1 := keepC hq d01; have q2 := keepC hq d10; have q3 := keepC hq d11; refine Reg.gAt_val ?_; go_simp; first | done | (with_reducible rfl) | rfl)
  try simp only [Act.put, List.setIfInBounds_toArray, List.set_cons_zero, List.set_cons_succ]
  refine Reg.wpG_step (v := .agg #[.int .i64 ax, .int .i64 ay]) (fun wq hq => ?gs27x2) ?ks27x2
  case gs27x2 => (unfold Reg.gAt; go_simp; refine Reg.quiet_enter ?_; exact toPoint_any _ _ _)
  try simp only [Act.put, List.setIfInBounds_toArray, List.set_cons_zero, List.set_cons_succ]
  refine Reg.wpG_step (v := ?vs27x3) (fun wq hq => ?gs27x3) ?ks27x3
  case gs27x3 => (have q0 := keepC hq d00; have q1 := keepC hq d01; have q2 := keepC hq d10; have q3 := keepC hq d11; refine Reg.gAt_val ?_; go_simp; first | done | (with_reducible rfl) | rfl)
  try simp only [Act.put, List.setIfInBounds_toArray, List.set_cons_zero, List.set_cons_succ]
  refine Reg.wpG_step (v := .agg #[.int .i64 bx, .int .i64 by_]) (fun wq hq => ?gs27x4) ?ks27x4
  case gs27x4 => (unfold Reg.gAt; go_simp; refine Reg.quiet_enter ?_; exact toPoint_any _ _ _)
  try simp only [Act.put, List.setIfInBounds_toArray, List.set_cons_zero, List.set_cons_succ]
  refine Reg.wpG_step (v := .tuple #[.agg #[.int .i64 ((Pl.ltOf p ax ay bx by_).1.1), .int .i64 ((Pl.ltOf p ax ay bx by_).1.2.1), .int .i64 ((Pl.ltOf p ax ay bx by_).1.2.2)], .int .i64 ((Pl.ltOf p ax ay bx by_).2)]) (fun wq hq => ?gs27x5) ?ks27x5
  case gs27x5 => (unfold Reg.gAt; go_simp; refine Reg.quiet_enter ?_; exact sLineThrough_any _ _ _ _ _ _)
  try simp only [Act.put, List.setIfInBounds_toArray, List.set_cons_zero, List.set_cons_succ]
  refine Reg.wpG_step (v := ?vs27x6) (fun wq hq => ?gs27x6) ?ks27x6
  case gs27x6 => (have q0 := keepC hq d00; have q1 := keepC hq d01; have q2 := keepC hq d10; have q3 := keepC hq d11; refine Reg.gAt_val ?_; go_simp; first | done | (with_reducible rfl) | rfl)
  try simp only [Act.put, List.setIfInBounds_toArray, List.set_cons_zero, List.set_cons_succ]
  refine Reg.wpG_step (v := ?vs27x7) (fun wq hq => ?gs27x7) ?ks27x7
  case gs27x7 => (have q0 := keepC hq d00; have q1 := keepC hq d01; have q2 := keepC hq d10; have q3 := keepC hq d11; refine Reg.gAt_val ?_; go_simp; first | done | (with_reducible rfl) | rfl)
  try simp only [Act.put, List.setIfInBounds_toArray, List.set_cons_zero, List.set_cons_succ]
  refine Reg.wpG_step (v := ?vs27x8) (fun wq hq => ?gs27x8) ?ks27x8
  case gs27x8 => (have q0 := keepC hq d00; have q1 := keepC hq d01; have q2 := keepC hq d10; have q3 := keepC hq d11; refine Reg.gAt_val ?_; go_simp; first | done | (with_reducible rfl) | rfl)
  try simp only [Act.put, List.setIfInBounds_toArray, List.set_cons_zero, List.set_cons_succ]
  refine ⟨by simp [Reg.dst], ?_⟩
  intro w2 ub hB2 hgb hc
  have u0 : w2.cell? ⟨ub, 0, none⟩ = some (.int .i64 ((Pl.ltOf p ax ay bx by_).1.1)) := hc 0 _ rfl
  have u1 : w2.cell? ⟨ub, 1, none⟩ = some (.int .i64 ((Pl.ltOf p ax ay bx by_).1.2.1)) := hc 1 _ rfl
  have u2 : w2.cell? ⟨ub, 2, none⟩ = some (.int .i64 ((Pl.ltOf p ax ay bx by_).1.2.2)) := hc 2 _ rfl
  clear hc hgb
  simp only [Reg.dst, Act.put, List.setIfInBounds_toArray, List.set_cons_zero, List.set_cons_succ, List.getElem?_cons_zero, List.getElem?_cons_succ, Option.bind_some]
  replace d00 := keepC hB2 d00
  replace d01 := keepC hB2 d01
  replace d10 := keepC hB2 d10
  replace d11 := keepC hB2 d11
  replace hB := below_of hB hB2 hB.size
  clear hB2
  go_wp2_with fail
  refine Reg.wp_region_store' (by kernel_rfl) 9 7 (#[.int .i64 0, .int .i64 0, .int .i64 0], 27) (.agg #[(.int .i64 ((Pl.ltOf p ax ay bx by_).1.1)), (.int .i64 ((Pl.ltOf p ax ay bx by_).1.2.1)), (.int .i64 ((Pl.ltOf p ax ay bx by_).1.2.2))]) (.int .i64 ((Pl.ltOf p ax ay bx by_).1.1)) [(.int .i64 ((Pl.ltOf p ax ay bx by_).1.2.1)), (.int .i64 ((Pl.ltOf p ax ay bx by_).1.2.2))] (by kernel_rfl) ?_ ?_ ?_
  · intro o ho ρ wz
    simp at ho; subst ho; rfl
  · intro o ho ρ wz g h0 h1 hb
    simp at ho; subst ho
    simp [Reg.dst] at h0 h1
    obtain ⟨z0, z1, z2, y0, y1, y2⟩ := Reg.blk3 hb
    refine ⟨(World.setCell (World.setCell (World.setCell wz ⟨g, 0, none⟩ (.int .i64 ((Pl.ltOf p ax ay bx by_).1.1))) ⟨g, 1, none⟩ (.int .i64 ((Pl.ltOf p ax ay bx by_).1.2.1))) ⟨g, 2, none⟩ (.int .i64 ((Pl.ltOf p ax ay bx by_).1.2.2))), ?_, ?_, fun B hBg => by go_grown⟩
    · go_simp
    · intro j v hj
      match j, hj with
      | 0, hj => (simp at hj; subst hj; simp [World.cell?_setCell_other, World.cell?_setCell_same, z0, z1, z2])
      | 1, hj => (simp at hj; subst hj; simp [World.cell?_setCell_other, World.cell?_setCell_same, z0, z1, z2])
      | 2, hj => (simp at hj; subst hj; simp [World.cell?_setCell_other, World.cell?_setCell_same, z0, z1, z2])
  simp only [List.take_succ_cons, List.take_zero, List.drop_succ_cons, List.drop_zero]
  refine Reg.wpG_step (v := ?vs28x0) (fun wq hq => ?gs28x0) ?ks28x0
  case gs28x0 => (have q0 := keepC hq d00; have q1 := keepC hq d01; have q2 := keepC hq d10; have q3 := keepC hq d11; have q4 := keepC hq u0; have q5 := keepC hq u1; have q6 := keepC hq u2; refine Reg.gAt_val ?_; go_simp; first | done | (with_reducible rfl) | rfl)
  try simp only [Act.put, List.setIfInBounds_toArray, List.set_cons_zero, List.set_cons_succ]
  refine Reg.wpG_step (v := ?vs28x1) (fun wq hq => ?gs28x1) ?ks28x1
  case gs28x1 => (have q0 := keepC hq d00; have q1 := keepC hq d01; have q2 := keepC hq d10; have q3 := keepC hq d11; have q4 := keepC hq u0; have q5 := keepC hq u1; have q6 := keepC hq u2; refine Reg.gAt_val ?_; go_simp; first | done | (with_reducible rfl) | rfl)
  try simp only [Act.put, List.setIfInBounds_toArray, List.set_cons_zero, List.set_cons_succ]
  refine Reg.wpG_step (v := .agg #[.int .i64 ax, .int .i64 ay]) (fun wq hq => ?gs28x2) ?ks28x2
  case gs28x2 => (unfold Reg.gAt; go_simp; refine Reg.quiet_enter ?_; exact toPoint_any _ _ _)
  try simp only [Act.put, List.setIfInBounds_toArray, List.set_cons_zero, List.set_cons_succ]
  refine Reg.wpG_step (v := ?vs28x3) (fun wq hq => ?gs28x3) ?ks28x3
  case gs28x3 => (have q0 := keepC hq d00; have q1 := keepC hq d01; have q2 := keepC hq d10; have q3 := keepC hq d11; have q4 := keepC hq u0; have q5 := keepC hq u1; have q6 := keepC hq u2; refine Reg.gAt_val ?_; go_simp; first | done | (with_reducible rfl) | rfl)
  try simp only [Act.put, List.setIfInBounds_toArray, List.set_cons_zero, List.set_cons_succ]
  refine Reg.wpG_step (v := .agg #[.int .i64 bx, .int .i64 by_]) (fun wq hq => ?gs28x4) ?ks28x4
  case gs28x4 => (unfold Reg.gAt; go_simp; refine Reg.quiet_enter ?_; exact toPoint_any _ _ _)
  try simp only [Act.put, List.setIfInBounds_toArray, List.set_cons_zero, List.set_cons_succ]
  refine Reg.wpG_step (v := .tuple #[.agg #[.int .i64 ((Pl.ltOf p ax ay bx by_).1.1), .int .i64 ((Pl.ltOf p ax ay bx by_).1.2.1), .int .i64 ((Pl.ltOf p ax ay bx by_).1.2.2)], .int .i64 ((Pl.ltOf p ax ay bx by_).2)]) (fun wq hq => ?gs28x5) ?ks28x5
  case gs28x5 => (unfold Reg.gAt; go_simp; refine Reg.quiet_enter ?_; exact LineThrough_any _ _ _ _ _ _)
  try simp only [Act.put, List.setIfInBounds_toArray, List.set_cons_zero, List.set_cons_succ]
  refine Reg.wpG_step (v := ?vs28x6) (fun wq hq => ?gs28x6) ?ks28x6
  case gs28x6 => (have q0 := keepC hq d00; have q1 := keepC hq d01; have q2 := keepC hq d10; have q3 := keepC hq d11; have q4 := keepC hq u0; have q5 := keepC hq u1; have q6 := keepC hq u2; refine Reg.gAt_val ?_; go_simp; first | done | (with_reducible rfl) | rfl)
  try simp only [Act.put, List.setIfInBounds_toArray, List.set_cons_zero, List.set_cons_succ]
  refine Reg.wpG_step (v := ?vs28x7) (fun wq hq => ?gs28x7) ?ks28x7
  case gs28x7 => (have q0 := keepC hq d00; have q1 := keepC hq d01; have q2 := keepC hq d10; have q3 := keepC hq d11; have q4 := keepC hq u0; have q5 := keepC hq u1; have q6 := keepC hq u2; refine Reg.gAt_val ?_; go_simp; first | done | (with_reducible rfl) | rfl)
  try simp only [Act.put, List.setIfInBounds_toArray, List.set_cons_zero, List.set_cons_succ]
  refine Reg.wpG_step (v := ?vs28x8) (fun wq hq => ?gs28x8) ?ks28x8
  case gs28x8 => (have q0 := keepC hq d00; have q1 := keepC hq d01; have q2 := keepC hq d10; have q3 := keepC hq d11; have q4 := keepC hq u0; have q5 := keepC hq u1; have q6 := keepC hq u2; refine Reg.gAt_val ?_; go_simp; first | done | (with_reducible rfl) | rfl)
  try simp only [Act.put, List.setIfInBounds_toArray, List.set_cons_zero, List.set_cons_succ]
  refine ⟨by simp [Reg.dst], ?_⟩
  intro w2 vb hB2 hgb hc
  have v0 : w2.cell? ⟨vb, 0, none⟩ = some (.int .i64 ((Pl.ltOf p ax ay bx by_).1.1)) := hc 0 _ rfl
  have v1 : w2.cell? ⟨vb, 1, none⟩ = some (.int .i64 ((Pl.ltOf p ax ay bx by_).1.2.1)) := hc 1 _ rfl
  have v2 : w2.cell? ⟨vb, 2, none⟩ = some (.int .i64 ((Pl.ltOf p ax ay bx by_).1.2.2)) := hc 2 _ rfl
  clear hc hgb
  simp only [Reg.dst, Act.put, List.setIfInBounds_toArray, List.set_cons_zero, List.set_cons_succ, List.getElem?_cons_zero, List.getElem?_cons_succ, Option.bind_some]
  replace d00 := keepC hB2 d00
  replace d01 := keepC hB2 d01
  replace d10 := keepC hB2 d10
  replace d11 := keepC hB2 d11
  replace u0 := keepC hB2 u0
  replace u1 := keepC hB2 u1
  replace u2 := keepC hB2 u2
  replace hB := below_of hB hB2 hB.size
  clear hB2
  go_wp2_with (go_at_call 22; refine (eqLine_same _ _ _ _).mono ?_; rintro e w' ⟨rfl, hbn⟩; replace hB := below_of (B := w.heap.size) (a := w) (by first | exact hB | (have := hB.size; go_grown)) hbn (by first | exact hB.size | (have := hB.size; simp <;> omega)); clear hbn)
  go_ret
  exact ⟨rfl, by first | exact hB | go_grown⟩
end Go.Proofs.Ytjjidjcflimhgaa.fnExactLineThrough
