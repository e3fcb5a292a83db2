/- FnExactMeetOf: the walk. -/
import Derived.Test.YtjjidjcflimhgaaN
import Derived.Test.YtjjidjcflimhgaaG
import Derived.Test.YtjjidjcflimhgaaReg2
import Derived.Test.YtjjidjcflimhgaaEq
set_option linter.unusedVariables false
set_option linter.unusedSimpArgs false
set_option maxHeartbeats 2000000
set_option maxRecDepth 100000
namespace Go.Proofs.Ytjjidjcflimhgaa.fnExactMeetOf
open Go.RowKit
theorem walk (p la lb lc ma mb mc : Int) (_ : (Lit.int .i64 p).wf = true) (_ : (Lit.int .i64 la).wf = true) (_ : (Lit.int .i64 lb).wf = true) (_ : (Lit.int .i64 lc).wf = true) (_ : (Lit.int .i64 ma).wf = true) (_ : (Lit.int .i64 mb).wf = true) (_ : (Lit.int .i64 mc).wf = true) (w : World) : Calls Try.prog 3 #[.int .i64 p, .agg #[.int .i64 la, .int .i64 lb, .int .i64 lc], .agg #[.int .i64 ma, .int .i64 mb, .int .i64 mc]] w fun e w' => e = .returned (.bool true) ∧ Below w.heap.size w w' := by
  go_enter Try.func3, Try.ntmps3
  go_wp2_with fail
  generalize hW : (World.alloc (World.alloc w (.cells #[.int .i64 la, .int .i64 lb, .int .i64 lc] 22)) (.cells #[.int .i64 ma, .int .i64 mb, .int .i64 mc] 22)) = W
  have d00 : W.cell? ⟨w.heap.size, 0, none⟩ = some (.int .i64 la) := by subst hW; go_simp
  have d01 : W.cell? ⟨w.heap.size, 1, none⟩ = some (.int .i64 lb) := by subst hW; go_simp
  have d02 : W.cell? ⟨w.heap.size, 2, none⟩ = some (.int .i64 lc) := by subst hW; go_simp
  have d10 : W.cell? ⟨w.heap.size + 1, 0, none⟩ = some (.int .i64 ma) := by subst hW; go_simp
  have d11 : W.cell? ⟨w.heap.size + 1, 1, none⟩ = some (.int .i64 mb) := by subst hW; go_simp
  have d12 : W.cell? ⟨w.heap.size + 1, 2, none⟩ = some (.int .i64 mc) := by subst hW; go_simp
  have hB : Below w.heap.size w W := by subst hW; go_grown
  clear hW
  refine Reg.wp_region_store' (by kernel_rfl) 9 7 (#[.int .i64 0, .int .i64 0], 24) (.agg #[(.int .i64 ((Pl.meetOf p la lb lc ma mb mc).1.1)), (.int .i64 ((Pl.meetOf p la lb lc ma mb mc).1.2))]) (.int .i64 ((Pl.meetOf p la lb lc ma mb mc).1.1)) [(.int .i64 ((Pl.meetOf p la lb lc ma mb mc).1.2))] (by kernel_rfl) ?_ ?_ ?_
  · intro o ho ρ wz
    simp at ho; subst ho; rfl
  · intro o ho ρ wz g h0 h1 hb
    simp at ho; subst ho
    simp [Reg.dst] at h0 h1
    obtain ⟨z0, z1, y0, y1⟩ := Reg.blk2 hb
    refine ⟨(World.setCell (World.setCell wz ⟨g, 0, none⟩ (.int .i64 ((Pl.meetOf p la lb lc ma mb mc).1.1))) ⟨g, 1, none⟩ (.int .i64 ((Pl.meetOf p la lb lc ma mb mc).1.2))), ?_, ?_, fun B hBg => by go_grown⟩
    · go_simp
    · intro j v hj
      match j, hj with
      | 0, hj => (simp at hj; subst hj; simp [World.cell?_setCell_other, World.cell?_setCell_same, z0, z1])
      | 1, hj => (simp at hj; subst hj; simp [World.cell?_setCell_other, World.cell?_setCell_same, z0, z1])
  simp only [List.take_succ_cons, List.take_zero, List.drop_succ_cons, List.drop_zero]
  refine Reg.wpG_step (v := ?vs25x0) (fun wq hq => ?gs25x0) ?ks25x0
  case gs25x0 => (have q0 := keepC hq d00; have q1 := keepC hq d01; have q2 := keepC hq d02; have q3 := keepC hq d10; have q4 := keepC hq d11; have q5 := keepC hq d12; refine Reg.gAt_val ?_; go_simp; first | done | (with_reducible rfl) | rfl)
  try simp only [Act.put, List.setIfInBounds_toArray, List.set_cons_zero, List.set_cons_succ]
  refine Reg.wpG_step (v := ?vs25x1) (fun wq hq => ?gs25x1) ?ks25x1
  case gs25x1 => (have q0 := keepC hq d00; have q1 := keepC hq d01; have q2 := keepC hq d02; have q3 := keepC hq d10; have q4 := keepC hq d11; have q5 := keepC hq d12; refine Reg.gAt_val ?_; go_simp; first | done | (with_reducible rfl) | rfl)
  try simp only [Act.put, List.setIfInBounds_toArray, List.set_cons_zero, List.set_cons_succ]
  refine Reg.wpG_step (v := .agg #[.int .i64 la, .int .i64 lb, .int .i64 lc]) (fun wq hq => ?gs25x2) ?ks25x2
  case gs25x2 => (unfold Reg.gAt; go_simp; refine Reg.quiet_enter ?_; exact toLine_any _ _ _ _)
  try simp only [Act.put, List.setIfInBounds_toArray, List.set_cons_zero, List.set_cons_succ]
  refine Reg.wpG_step (v := ?vs25x3) (fun wq hq => ?gs25x3) ?ks25x3
  case gs25x3 => (have q0 := keepC hq d00; have q1 := keepC hq d01; have q2 := keepC hq d02; have q3 := keepC hq d10; have q4 := keepC hq d11; have q5 := keepC hq d12; refine Reg.gAt_val ?_; go_simp; first | done | (with_reducible rfl) | rfl)
  try simp only [Act.put, List.setIfInBounds_toArray, List.set_cons_zero, List.set_cons_succ]
  refine Reg.wpG_step (v := .agg #[.int .i64 ma, .int .i64 mb, .int .i64 mc]) (fun wq hq => ?gs25x4) ?ks25x4
  case gs25x4 => (unfold Reg.gAt; go_simp; refine Reg.quiet_enter ?_; exact toLine_any _ _ _ _)
  try simp only [Act.put, List.setIfInBounds_toArray, List.set_cons_zero, List.set_cons_succ]
  refine Reg.wpG_step (v := .tuple #[.agg #[.int .i64 ((Pl.meetOf p la lb lc ma mb mc).1.1), .int .i64 ((Pl.meetOf p la lb lc ma mb mc).1.2)], .int .i64 ((Pl.meetOf p la lb lc ma mb mc).2)]) (fun wq hq => ?gs25x5) ?ks25x5
  case gs25x5 => (unfold Reg.gAt; go_simp; refine Reg.quiet_enter ?_; exact sMeetOf_any _ _ _ _ _ _ _ _)
  try simp only [Act.put, List.setIfInBounds_toArray, List.set_cons_zero, List.set_cons_succ]
  refine Reg.wpG_step (v := ?vs25x6) (fun wq hq => ?gs25x6) ?ks25x6
  case gs25x6 => (have q0 := keepC hq d00; have q1 := keepC hq d01; have q2 := keepC hq d02; have q3 := keepC hq d10; have q4 := keepC hq d11; have q5 := keepC hq d12; refine Reg.gAt_val ?_; go_simp; first | done | (with_reducible rfl) | rfl)
  try simp only [Act.put, List.setIfInBounds_toArray, List.set_cons_zero, List.set_cons_succ]
  refine Reg.wpG_step (v := ?vs25x7) (fun wq hq => ?gs25x7) ?ks25x7
  case gs25x7 => (have q0 := keepC hq d00; have q1 := keepC hq d01; have q2 := keepC hq d02; have q3 := keepC hq d10; have q4 := keepC hq d11; have q5 := keepC hq d12; refine Reg.gAt_val ?_; go_simp; first | done | (with_reducible rfl) | rfl)
  try simp only [Act.put, List.setIfInBounds_toArray, List.set_cons_zero, List.set_cons_succ]
  refine Reg.wpG_step (v := ?vs25x8) (fun wq hq => ?gs25x8) ?ks25x8
  case gs25x8 => (have q0 := keepC hq d00; have q1 := keepC hq d01; have q2 := keepC hq d02; have q3 := keepC hq d10; have q4 := keepC hq d11; have q5 := keepC hq d12; refine Reg.gAt_val ?_; go_simp; first | done | (with_reducible rfl) | rfl)
  try simp only [Act.put, List.setIfInBounds_toArray, List.set_cons_zero, List.set_cons_succ]
  refine ⟨by simp [Reg.dst], ?_⟩
  intro w2 ub hB2 hgb hc
  have u0 : w2.cell? ⟨ub, 0, none⟩ = some (.int .i64 ((Pl.meetOf p la lb lc ma mb mc).1.1)) := hc 0 _ rfl
  have u1 : w2.cell? ⟨ub, 1, none⟩ = some (.int .i64 ((Pl.meetOf p la lb lc ma mb mc).1.2)) := hc 1 _ rfl
  clear hc hgb
  simp only [Reg.dst, Act.put, List.setIfInBounds_toArray, List.set_cons_zero, List.set_cons_succ, List.getElem?_cons_zero, List.getElem?_cons_succ, Option.bind_some]
  replace d00 := keepC hB2 d00
  replace d01 := keepC hB2 d01
  replace d02 := keepC hB2 d02
  replace d10 := keepC hB2 d10
  replace d11 := keepC hB2 d11
  replace d12 := keepC hB2 d12
  replace hB := below_of hB hB2 hB.size
  clear hB2
  go_wp2_with fail
  refine Reg.wp_region_store' (by kernel_rfl) 9 7 (#[.int .i64 0, .int .i64 0], 24) (.agg #[(.int .i64 ((Pl.meetOf p la lb lc ma mb mc).1.1)), (.int .i64 ((Pl.meetOf p la lb lc ma mb mc).1.2))]) (.int .i64 ((Pl.meetOf p la lb lc ma mb mc).1.1)) [(.int .i64 ((Pl.meetOf p la lb lc ma mb mc).1.2))] (by kernel_rfl) ?_ ?_ ?_
  · intro o ho ρ wz
    simp at ho; subst ho; rfl
  · intro o ho ρ wz g h0 h1 hb
    simp at ho; subst ho
    simp [Reg.dst] at h0 h1
    obtain ⟨z0, z1, y0, y1⟩ := Reg.blk2 hb
    refine ⟨(World.setCell (World.setCell wz ⟨g, 0, none⟩ (.int .i64 ((Pl.meetOf p la lb lc ma mb mc).1.1))) ⟨g, 1, none⟩ (.int .i64 ((Pl.meetOf p la lb lc ma mb mc).1.2))), ?_, ?_, fun B hBg => by go_grown⟩
    · go_simp
    · intro j v hj
      match j, hj with
      | 0, hj => (simp at hj; subst hj; simp [World.cell?_setCell_other, World.cell?_setCell_same, z0, z1])
      | 1, hj => (simp at hj; subst hj; simp [World.cell?_setCell_other, World.cell?_setCell_same, z0, z1])
  simp only [List.take_succ_cons, List.take_zero, List.drop_succ_cons, List.drop_zero]
  refine Reg.wpG_step (v := ?vs26x0) (fun wq hq => ?gs26x0) ?ks26x0
  case gs26x0 => (have q0 := keepC hq d00; have q1 := keepC hq d01; have q2 := keepC hq d02; have q3 := keepC hq d10; have q4 := keepC hq d11; have q5 := keepC hq d12; have q6 := keepC hq u0; have q7 := keepC hq u1; refine Reg.gAt_val ?_; go_simp; first | done | (with_reducible rfl) | rfl)
  try simp only [Act.put, List.setIfInBounds_toArray, List.set_cons_zero, List.set_cons_succ]
  refine Reg.wpG_step (v := ?vs26x1) (fun wq hq => ?gs26x1) ?ks26x1
  case gs26x1 => (have q0 := keepC hq d00; have q1 := keepC hq d01; have q2 := keepC hq d02; have q3 := keepC hq d10; have q4 := keepC hq d11; have q5 := keepC hq d12; have q6 := keepC hq u0; have q7 := keepC hq u1; refine Reg.gAt_val ?_; go_simp; first | done | (with_reducible rfl) | rfl)
  try simp only [Act.put, List.setIfInBounds_toArray, List.set_cons_zero, List.set_cons_succ]
  refine Reg.wpG_step (v := .agg #[.int .i64 la, .int .i64 lb, .int .i64 lc]) (fun wq hq => ?gs26x2) ?ks26x2
  case gs26x2 => (unfold Reg.gAt; go_simp; refine Reg.quiet_enter ?_; exact toLine_any _ _ _ _)
  try simp only [Act.put, List.setIfInBounds_toArray, List.set_cons_zero, List.set_cons_succ]
  refine Reg.wpG_step (v := ?vs26x3) (fun wq hq => ?gs26x3) ?ks26x3
  case gs26x3 => (have q0 := keepC hq d00; have q1 := keepC hq d01; have q2 := keepC hq d02; have q3 := keepC hq d10; have q4 := keepC hq d11; have q5 := keepC hq d12; have q6 := keepC hq u0; have q7 := keepC hq u1; refine Reg.gAt_val ?_; go_simp; first | done | (with_reducible rfl) | rfl)
  try simp only [Act.put, List.setIfInBounds_toArray, List.set_cons_zero, List.set_cons_succ]
  refine Reg.wpG_step (v := .agg #[.int .i64 ma, .int .i64 mb, .int .i64 mc]) (fun wq hq => ?gs26x4) ?ks26x4
  case gs26x4 => (unfold Reg.gAt; go_simp; refine Reg.quiet_enter ?_; exact toLine_any _ _ _ _)
  try simp only [Act.put, List.setIfInBounds_toArray, List.set_cons_zero, List.set_cons_succ]
  refine Reg.wpG_step (v := .tuple #[.agg #[.int .i64 ((Pl.meetOf p la lb lc ma mb mc).1.1), .int .i64 ((Pl.meetOf p la lb lc ma mb mc).1.2)], .int .i64 ((Pl.meetOf p la lb lc ma mb mc).2)]) (fun wq hq => ?gs26x5) ?ks26x5
  case gs26x5 => (unfold Reg.gAt; go_simp; refine Reg.quiet_enter ?_; exact MeetOf_any _ _ _ _ _ _ _ _)
  try simp only [Act.put, List.setIfInBounds_toArray, List.set_cons_zero, List.set_cons_succ]
  refine Reg.wpG_step (v := ?vs26x6) (fun wq hq => ?gs26x6) ?ks26x6
  case gs26x6 => (have q0 := keepC hq d00; have q1 := keepC hq d01; have q2 := keepC hq d02; have q3 := keepC hq d10; have q4 := keepC hq d11; have q5 := keepC hq d12; have q6 := keepC hq u0; have q7 := keepC hq u1; refine Reg.gAt_val ?_; go_simp; first | done | (with_reducible rfl) | rfl)
  try simp only [Act.put, List.setIfInBounds_toArray, List.set_cons_zero, List.set_cons_succ]
  refine Reg.wpG_step (v := ?vs26x7) (fun wq hq => ?gs26x7) ?ks26x7
  case gs26x7 => (have q0 := keepC hq d00; have q1 := keepC hq d01; have q2 := keepC hq d02; have q3 := keepC hq d10; have q4 := keepC hq d11; have q5 := keepC hq d12; have q6 := keepC hq u0; have q7 := keepC hq u1; refine Reg.gAt_val ?_; go_simp; first | done | (with_reducible rfl) | rfl)
  try simp only [Act.put, List.setIfInBounds_toArray, List.set_cons_zero, List.set_cons_succ]
  refine Reg.wpG_step (v := ?vs26x8) (fun wq hq => ?gs26x8) ?ks26x8
  case gs26x8 => (have q0 := keepC hq d00; have q1 := keepC hq d01; have q2 := keepC hq d02; have q3 := keepC hq d10; have q4 := keepC hq d11; have q5 := keepC hq d12; have q6 := keepC hq u0; have q7 := keepC hq u1; refine Reg.gAt_val ?_; go_simp; first | done | (with_reducible rfl) | rfl)
  try simp only [Act.put, List.setIfInBounds_toArray, List.set_cons_zero, List.set_cons_succ]
  refine ⟨by simp [Reg.dst], ?_⟩
  intro w2 vb hB2 hgb hc
  have v0 : w2.cell? ⟨vb, 0, none⟩ = some (.int .i64 ((Pl.meetOf p la lb lc ma mb mc).1.1)) := hc 0 _ rfl
  have v1 : w2.cell? ⟨vb, 1, none⟩ = some (.int .i64 ((Pl.meetOf p la lb lc ma mb mc).1.2)) := hc 1 _ rfl
  clear hc hgb
  simp only [Reg.dst, Act.put, List.setIfInBounds_toArray, List.set_cons_zero, List.set_cons_succ, List.getElem?_cons_zero, List.getElem?_cons_succ, Option.bind_some]
  replace d00 := keepC hB2 d00
  replace d01 := keepC hB2 d01
  replace d02 := keepC hB2 d02
  replace d10 := keepC hB2 d10
  replace d11 := keepC hB2 d11
  replace d12 := keepC hB2 d12
  replace u0 := keepC hB2 u0
  replace u1 := keepC hB2 u1
  replace hB := below_of hB hB2 hB.size
  clear hB2
  go_wp2_with (go_at_call 18; refine (eqPoint_same _ _ _).mono ?_; rintro e w' ⟨rfl, hbn⟩; replace hB := below_of (B := w.heap.size) (a := w) (by first | exact hB | (have := hB.size; go_grown)) hbn (by first | exact hB.size | (have := hB.size; simp <;> omega)); clear hbn)
  go_ret
  exact ⟨rfl, by first | exact hB | go_grown⟩
end Go.Proofs.Ytjjidjcflimhgaa.fnExactMeetOf
