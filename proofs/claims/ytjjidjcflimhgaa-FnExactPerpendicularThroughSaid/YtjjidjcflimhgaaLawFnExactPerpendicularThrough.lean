/- FnExactPerpendicularThrough: the walk. -/
import Derived.Test.YtjjidjcflimhgaaSy
import Derived.Test.YtjjidjcflimhgaaG
import Derived.Test.YtjjidjcflimhgaaReg2
import Derived.Test.YtjjidjcflimhgaaEq
set_option linter.unusedVariables false
set_option linter.unusedSimpArgs false
set_option maxHeartbeats 2000000
set_option maxRecDepth 100000
namespace Go.Proofs.Ytjjidjcflimhgaa.fnExactPerpendicularThrough
open Go.RowKit
theorem walk (p k la lb lc ax ay : Int) (_ : (Lit.int .i64 p).wf = true) (_ : (Lit.int .i64 k).wf = true) (_ : (Lit.int .i64 la).wf = true) (_ : (Lit.int .i64 lb).wf = true) (_ : (Lit.int .i64 lc).wf = true) (_ : (Lit.int .i64 ax).wf = true) (_ : (Lit.int .i64 ay).wf = true) (w : World) : Calls Try.prog 9 #[.int .i64 p, .int .i64 k, .agg #[.int .i64 la, .int .i64 lb, .int .i64 lc], .agg #[.int .i64 ax, .int .i64 ay]] w fun e w' => e = .returned (.bool true) ∧ Below w.heap.size w w' := by
  go_enter Try.func9, Try.ntmps9
  go_wp2_with fail
  generalize hW : (World.alloc (World.alloc w (.cells #[.int .i64 la, .int .i64 lb, .int .i64 lc] 22)) (.cells #[.int .i64 ax, .int .i64 ay] 23)) = W
  have d00 : W.cell? ⟨w.heap.size, 0, none⟩ = some (.int .i64 la) := by subst hW; go_simp
  have d01 : W.cell? ⟨w.heap.size, 1, none⟩ = some (.int .i64 lb) := by subst hW; go_simp
  have d02 : W.cell? ⟨w.heap.size, 2, none⟩ = some (.int .i64 lc) := by subst hW; go_simp
  have d10 : W.cell? ⟨w.heap.size + 1, 0, none⟩ = some (.int .i64 ax) := by subst hW; go_simp
  have d11 : W.cell? ⟨w.heap.size + 1, 1, none⟩ = some (.int .i64 ay) := by subst hW; go_simp
  have hB : Below w.heap.size w W := by subst hW; go_grown
  clear hW
  refine Reg.wp_region_store' (by kernel_rfl) 10 8 (#[.int .i64 0, .int .i64 0, .int .i64 0], 27) (.agg #[(.int .i64 ((Pl.perpTOf p k la lb lc ax ay).1.1)), (.int .i64 ((Pl.perpTOf p k la lb lc ax ay).1.2.1)), (.int .i64 ((Pl.perpTOf p k la lb lc ax ay).1.2.2))]) (.int .i64 ((Pl.perpTOf p k la lb lc ax ay).1.1)) [(.int .i64 ((Pl.perpTOf p k la lb lc ax ay).1.2.1)), (.int .i64 ((Pl.perpTOf p k la lb lc ax ay).1.2.2))] (by kernel_rfl) ?_ ?_ ?_
  · intro o ho ρ wz
    simp at ho; subst ho; rfl
  · intro o ho ρ wz g h0 h1 hb
    simp at ho; subst ho
    simp [Reg.dst] at h0 h1
    obtain ⟨z0, z1, z2, y0, y1, y2⟩ := Reg.blk3 hb
    refine ⟨(World.setCell (World.setCell (World.setCell wz ⟨g, 0, none⟩ (.int .i64 ((Pl.perpTOf p k la lb lc ax ay).1.1))) ⟨g, 1, none⟩ (.int .i64 ((Pl.perpTOf p k la lb lc ax ay).1.2.1))) ⟨g, 2, none⟩ (.int .i64 ((Pl.perpTOf p k la lb lc ax ay).1.2.2))), ?_, ?_, fun B hBg => by go_grown⟩
    · go_simp
    · intro j v hj
      match j, hj with
      | 0, hj => (simp at hj; subst hj; simp [World.cell?_setCell_other, World.cell?_setCell_same, z0, z1, z2])
      | 1, hj => (simp at hj; subst hj; simp [World.cell?_setCell_other, World.cell?_setCell_same, z0, z1, z2])
      | 2, hj => (simp at hj; subst hj; simp [World.cell?_setCell_other, World.cell?_setCell_same, z0, z1, z2])
  simp only [List.take_succ_cons, List.take_zero, List.drop_succ_cons, List.drop_zero]
  refine Reg.wpG_step (v := ?vs39x0) (fun wq hq => ?gs39x0) ?ks39x0
  case gs39x0 => (have q0 := keepC hq d00; have q1 := keepC hq d01; have q2 := keepC hq d02; have q3 := keepC hq d10; have q4 := keepC hq d11; refine Reg.gAt_val ?_; go_simp; first | done | (with_reducible rfl) | rfl)
  try simp only [Act.put, List.setIfInBounds_toArray, List.set_cons_zero, List.set_cons_succ]
  refine Reg.wpG_step (v := ?vs39x1) (fun wq hq => ?gs39x1) ?ks39x1
  case gs39x1 => (have q0 := keepC hq d00; have q1 := keepC hq d01; have q2 := keepC hq d02; have q3 := keepC hq d10; have q4 := keepC hq d11; refine Reg.gAt_val ?_; go_simp; first | done | (with_reducible rfl) | rfl)
  try simp only [Act.put, List.setIfInBounds_toArray, List.set_cons_zero, List.set_cons_succ]
  refine Reg.wpG_step (v := ?vs39x2) (fun wq hq => ?gs39x2) ?ks39x2
  case gs39x2 => (have q0 := keepC hq d00; have q1 := keepC hq d01; have q2 := keepC hq d02; have q3 := keepC hq d10; have q4 := keepC hq d11; refine Reg.gAt_val ?_; go_simp; first | done | (with_reducible rfl) | rfl)
  try simp only [Act.put, List.setIfInBounds_toArray, List.set_cons_zero, List.set_cons_succ]
  refine Reg.wpG_step (v := .agg #[.int .i64 la, .int .i64 lb, .int .i64 lc]) (fun wq hq => ?gs39x3) ?ks39x3
  case gs39x3 => (unfold Reg.gAt; go_simp; refine Reg.quiet_enter ?_; exact toLine_any _ _ _ _)
  try simp only [Act.put, List.setIfInBounds_toArray, List.set_cons_zero, List.set_cons_succ]
  refine Reg.wpG_step (v := ?vs39x4) (fun wq hq => ?gs39x4) ?ks39x4
  case gs39x4 => (have q0 := keepC hq d00; have q1 := keepC hq d01; have q2 := keepC hq d02; have q3 := keepC hq d10; have q4 := keepC hq d11; refine Reg.gAt_val ?_; go_simp; first | done | (with_reducible rfl) | rfl)
  try simp only [Act.put, List.setIfInBounds_toArray, List.set_cons_zero, List.set_cons_succ]
  refine Reg.wpG_step (v := .agg #[.int .i64 ax, .int .i64 ay]) (fun wq hq => ?gs39x5) ?ks39x5
  case gs39x5 => (unfold Reg.gAt; go_simp; refine Reg.quiet_enter ?_; exact toPoint_any _ _ _)
  try simp only [Act.put, List.setIfInBounds_toArray, List.set_cons_zero, List.set_cons_succ]
  refine Reg.wpG_step (v := .tuple #[.agg #[.int .i64 ((Pl.perpTOf p k la lb lc ax ay).1.1), .int .i64 ((Pl.perpTOf p k la lb lc ax ay).1.2.1), .int .i64 ((Pl.perpTOf p k la lb lc ax ay).1.2.2)], .int .i64 ((Pl.perpTOf p k la lb lc ax ay).2)]) (fun wq hq => ?gs39x6) ?ks39x6
  case gs39x6 => (unfold Reg.gAt; go_simp; refine Reg.quiet_enter ?_; exact sPerpendicularThrough_any _ _ _ _ _ _ _ _)
  try simp only [Act.put, List.setIfInBounds_toArray, List.set_cons_zero, List.set_cons_succ]
  refine Reg.wpG_step (v := ?vs39x7) (fun wq hq => ?gs39x7) ?ks39x7
  case gs39x7 => (have q0 := keepC hq d00; have q1 := keepC hq d01; have q2 := keepC hq d02; have q3 := keepC hq d10; have q4 := keepC hq d11; refine Reg.gAt_val ?_; go_simp; first | done | (with_reducible rfl) | rfl)
  try simp only [Act.put, List.setIfInBounds_toArray, List.set_cons_zero, List.set_cons_succ]
  refine Reg.wpG_step (v := ?vs39x8) (fun wq hq => ?gs39x8) ?ks39x8
  case gs39x8 => (have q0 := keepC hq d00; have q1 := keepC hq d01; have q2 := keepC hq d02; have q3 := keepC hq d10; have q4 := keepC hq d11; refine Reg.gAt_val ?_; go_simp; first | done | (with_reducible rfl) | rfl)
  try simp only [Act.put, List.setIfInBounds_toArray, List.set_cons_zero, List.set_cons_succ]
  refine Reg.wpG_step (v := ?vs39x9) (fun wq hq => ?gs39x9) ?ks39x9
  case gs39x9 => (have q0 := keepC hq d00; have q1 := keepC hq d01; have q2 := keepC hq d02; have q3 := keepC hq d10; have q4 := keepC hq d11; refine Reg.gAt_val ?_; go_simp; first | done | (with_reducible rfl) | rfl)
  try simp only [Act.put, List.setIfInBounds_toArray, List.set_cons_zero, List.set_cons_succ]
  refine ⟨by simp [Reg.dst], ?_⟩
  intro w2 ub hB2 hgb hc
  have u0 : w2.cell? ⟨ub, 0, none⟩ = some (.int .i64 ((Pl.perpTOf p k la lb lc ax ay).1.1)) := hc 0 _ rfl
  have u1 : w2.cell? ⟨ub, 1, none⟩ = some (.int .i64 ((Pl.perpTOf p k la lb lc ax ay).1.2.1)) := hc 1 _ rfl
  have u2 : w2.cell? ⟨ub, 2, none⟩ = some (.int .i64 ((Pl.perpTOf p k la lb lc ax ay).1.2.2)) := hc 2 _ rfl
  clear hc hgb
  simp only [Reg.dst, Act.put, List.setIfInBounds_toArray, List.set_cons_zero, List.set_cons_succ, List.getElem?_cons_zero, List.getElem?_cons_succ, Option.bind_some]
  replace d00 := keepC hB2 d00
  replace d01 := keepC hB2 d01
  replace d02 := keepC hB2 d02
  replace d10 := keepC hB2 d10
  replace d11 := keepC hB2 d11
  replace hB := below_of hB hB2 hB.size
  clear hB2
  go_wp2_with fail
  refine Reg.wp_region_store' (by kernel_rfl) 10 8 (#[.int .i64 0, .int .i64 0, .int .i64 0], 27) (.agg #[(.int .i64 ((Pl.perpTOf p k la lb lc ax ay).1.1)), (.int .i64 ((Pl.perpTOf p k la lb lc ax ay).1.2.1)), (.int .i64 ((Pl.perpTOf p k la lb lc ax ay).1.2.2))]) (.int .i64 ((Pl.perpTOf p k la lb lc ax ay).1.1)) [(.int .i64 ((Pl.perpTOf p k la lb lc ax ay).1.2.1)), (.int .i64 ((Pl.perpTOf p k la lb lc ax ay).1.2.2))] (by kernel_rfl) ?_ ?_ ?_
  · intro o ho ρ wz
    simp at ho; subst ho; rfl
  · intro o ho ρ wz g h0 h1 hb
    simp at ho; subst ho
    simp [Reg.dst] at h0 h1
    obtain ⟨z0, z1, z2, y0, y1, y2⟩ := Reg.blk3 hb
    refine ⟨(World.setCell (World.setCell (World.setCell wz ⟨g, 0, none⟩ (.int .i64 ((Pl.perpTOf p k la lb lc ax ay).1.1))) ⟨g, 1, none⟩ (.int .i64 ((Pl.perpTOf p k la lb lc ax ay).1.2.1))) ⟨g, 2, none⟩ (.int .i64 ((Pl.perpTOf p k la lb lc ax ay).1.2.2))), ?_, ?_, fun B hBg => by go_grown⟩
    · go_simp
    · intro j v hj
      match j, hj with
      | 0, hj => (simp at hj; subst hj; simp [World.cell?_setCell_other, World.cell?_setCell_same, z0, z1, z2])
      | 1, hj => (simp at hj; subst hj; simp [World.cell?_setCell_other, World.cell?_setCell_same, z0, z1, z2])
      | 2, hj => (simp at hj; subst hj; simp [World.cell?_setCell_other, World.cell?_setCell_same, z0, z1, z2])
  simp only [List.take_succ_cons, List.take_zero, List.drop_succ_cons, List.drop_zero]
  refine Reg.wpG_step (v := ?vs40x0) (fun wq hq => ?gs40x0) ?ks40x0
  case gs40x0 => (have q0 := keepC hq d00; have q1 := keepC hq d01; have q2 := keepC hq d02; have q3 := keepC hq d10; have q4 := keepC hq d11; have q5 := keepC hq u0; have q6 := keepC hq u1; have q7 := keepC hq u2; refine Reg.gAt_val ?_; go_simp; first | done | (with_reducible rfl) | rfl)
  try simp only [Act.put, List.setIfInBounds_toArray, List.set_cons_zero, List.set_cons_succ]
  refine Reg.wpG_step (v := ?vs40x1) (fun wq hq => ?gs40x1) ?ks40x1
  case gs40x1 => (have q0 := keepC hq d00; have q1 := keepC hq d01; have q2 := keepC hq d02; have q3 := keepC hq d10; have q4 := keepC hq d11; have q5 := keepC hq u0; have q6 := keepC hq u1; have q7 := keepC hq u2; refine Reg.gAt_val ?_; go_simp; first | done | (with_reducible rfl) | rfl)
  try simp only [Act.put, List.setIfInBounds_toArray, List.set_cons_zero, List.set_cons_succ]
  refine Reg.wpG_step (v := ?vs40x2) (fun wq hq => ?gs40x2) ?ks40x2
  case gs40x2 => (have q0 := keepC hq d00; have q1 := keepC hq d01; have q2 := keepC hq d02; have q3 := keepC hq d10; have q4 := keepC hq d11; have q5 := keepC hq u0; have q6 := keepC hq u1; have q7 := keepC hq u2; refine Reg.gAt_val ?_; go_simp; first | done | (with_reducible rfl) | rfl)
  try simp only [Act.put, List.setIfInBounds_toArray, List.set_cons_zero, List.set_cons_succ]
  refine Reg.wpG_step (v := .agg #[.int .i64 la, .int .i64 lb, .int .i64 lc]) (fun wq hq => ?gs40x3) ?ks40x3
  case gs40x3 => (unfold Reg.gAt; go_simp; refine Reg.quiet_enter ?_; exact toLine_any _ _ _ _)
  try simp only [Act.put, List.setIfInBounds_toArray, List.set_cons_zero, List.set_cons_succ]
  refine Reg.wpG_step (v := ?vs40x4) (fun wq hq => ?gs40x4) ?ks40x4
  case gs40x4 => (have q0 := keepC hq d00; have q1 := keepC hq d01; have q2 := keepC hq d02; have q3 := keepC hq d10; have q4 := keepC hq d11; have q5 := keepC hq u0; have q6 := keepC hq u1; have q7 := keepC hq u2; refine Reg.gAt_val ?_; go_simp; first | done | (with_reducible rfl) | rfl)
  try simp only [Act.put, List.setIfInBounds_toArray, List.set_cons_zero, List.set_cons_succ]
  refine Reg.wpG_step (v := .agg #[.int .i64 ax, .int .i64 ay]) (fun wq hq => ?gs40x5) ?ks40x5
  case gs40x5 => (unfold Reg.gAt; go_simp; refine Reg.quiet_enter ?_; exact toPoint_any _ _ _)
  try simp only [Act.put, List.setIfInBounds_toArray, List.set_cons_zero, List.set_cons_succ]
  refine Reg.wpG_step (v := .tuple #[.agg #[.int .i64 ((Pl.perpTOf p k la lb lc ax ay).1.1), .int .i64 ((Pl.perpTOf p k la lb lc ax ay).1.2.1), .int .i64 ((Pl.perpTOf p k la lb lc ax ay).1.2.2)], .int .i64 ((Pl.perpTOf p k la lb lc ax ay).2)]) (fun wq hq => ?gs40x6) ?ks40x6
  case gs40x6 => (unfold Reg.gAt; go_simp; refine Reg.quiet_enter ?_; exact PerpendicularThrough_any _ _ _ _ _ _ _ _)
  try simp only [Act.put, List.setIfInBounds_toArray, List.set_cons_zero, List.set_cons_succ]
  refine Reg.wpG_step (v := ?vs40x7) (fun wq hq => ?gs40x7) ?ks40x7
  case gs40x7 => (have q0 := keepC hq d00; have q1 := keepC hq d01; have q2 := keepC hq d02; have q3 := keepC hq d10; have q4 := keepC hq d11; have q5 := keepC hq u0; have q6 := keepC hq u1; have q7 := keepC hq u2; refine Reg.gAt_val ?_; go_simp; first | done | (with_reducible rfl) | rfl)
  try simp only [Act.put, List.setIfInBounds_toArray, List.set_cons_zero, List.set_cons_succ]
  refine Reg.wpG_step (v := ?vs40x8) (fun wq hq => ?gs40x8) ?ks40x8
  case gs40x8 => (have q0 := keepC hq d00; have q1 := keepC hq d01; have q2 := keepC hq d02; have q3 := keepC hq d10; have q4 := keepC hq d11; have q5 := keepC hq u0; have q6 := keepC hq u1; have q7 := keepC hq u2; refine Reg.gAt_val ?_; go_simp; first | done | (with_reducible rfl) | rfl)
  try simp only [Act.put, List.setIfInBounds_toArray, List.set_cons_zero, List.set_cons_succ]
  refine Reg.wpG_step (v := ?vs40x9) (fun wq hq => ?gs40x9) ?ks40x9
  case gs40x9 => (have q0 := keepC hq d00; have q1 := keepC hq d01; have q2 := keepC hq d02; have q3 := keepC hq d10; have q4 := keepC hq d11; have q5 := keepC hq u0; have q6 := keepC hq u1; have q7 := keepC hq u2; refine Reg.gAt_val ?_; go_simp; first | done | (with_reducible rfl) | rfl)
  try simp only [Act.put, List.setIfInBounds_toArray, List.set_cons_zero, List.set_cons_succ]
  refine ⟨by simp [Reg.dst], ?_⟩
  intro w2 vb hB2 hgb hc
  have v0 : w2.cell? ⟨vb, 0, none⟩ = some (.int .i64 ((Pl.perpTOf p k la lb lc ax ay).1.1)) := hc 0 _ rfl
  have v1 : w2.cell? ⟨vb, 1, none⟩ = some (.int .i64 ((Pl.perpTOf p k la lb lc ax ay).1.2.1)) := hc 1 _ rfl
  have v2 : w2.cell? ⟨vb, 2, none⟩ = some (.int .i64 ((Pl.perpTOf p k la lb lc ax ay).1.2.2)) := hc 2 _ rfl
  clear hc hgb
  simp only [Reg.dst, Act.put, List.setIfInBounds_toArray, List.set_cons_zero, List.set_cons_succ, List.getElem?_cons_zero, List.getElem?_cons_succ, Option.bind_some]
  replace d00 := keepC hB2 d00
  replace d01 := keepC hB2 d01
  replace d02 := keepC hB2 d02
  replace d10 := keepC hB2 d10
  replace d11 := keepC hB2 d11
  replace u0 := keepC hB2 u0
  replace u1 := keepC hB2 u1
  replace u2 := keepC hB2 u2
  replace hB := below_of hB hB2 hB.size
  clear hB2
  go_wp2_with (go_at_call 22; refine (eqLine_same _ _ _ _).mono ?_; rintro e w' ⟨rfl, hbn⟩; replace hB := below_of (B := w.heap.size) (a := w) (by first | exact hB | (have := hB.size; go_grown)) hbn (by first | exact hB.size | (have := hB.size; simp <;> omega)); clear hbn)
  go_ret
  exact ⟨rfl, by first | exact hB | go_grown⟩
end Go.Proofs.Ytjjidjcflimhgaa.fnExactPerpendicularThrough
