/- Contracts: ratios of points on a line: exported functions of both sides. -/
import Derived.Test.YtbjcbbnfgfmllaaGreatDoorH2
import Derived.Test.YtbjcbbnfgfmllaaGreatDoorPlA
import Derived.Test.YtbjcbbnfgfmllaaGreatDoorK
import Derived.Test.YtbjcbbnfgfmllaaGreatDoorAgg
set_option linter.unusedVariables false
set_option linter.unusedSimpArgs false
set_option maxRecDepth 100000
set_option maxHeartbeats 1000000
namespace Go.Proofs.YtbjcbbnfgfmllaaGreatDoor
open Go.RowKit
theorem alloc_pt (ρ : Operand → Value) (w : World) (d : Option Tmp) (pos : String) : (execOp ρ { dst := d, op := .alloc 29, type := 0, pos := pos, after := #[], guard := none }).run Tryz.prog w = .ok (.value (.pointer (some ⟨w.heap.size, 0, none⟩))) (w.alloc (.cells #[.int .i64 0, .int .i64 0] 29)) := by
  first | rfl | kernel_rfl | (simp [execOp, go_sem]; done) | (go_simp; done)
theorem RatioOf1_any (p ax ay bx by_ cx cy : Int) (b0 b1 b2 b3 : Nat) (w : World) (c00 : w.cell? ⟨b0, 0, none⟩ = some (.int .i64 p)) (c10 : w.cell? ⟨b1, 0, none⟩ = some (.int .i64 ax)) (c11 : w.cell? ⟨b1, 1, none⟩ = some (.int .i64 ay)) (c20 : w.cell? ⟨b2, 0, none⟩ = some (.int .i64 bx)) (c21 : w.cell? ⟨b2, 1, none⟩ = some (.int .i64 by_)) (c30 : w.cell? ⟨b3, 0, none⟩ = some (.int .i64 cx)) (c31 : w.cell? ⟨b3, 1, none⟩ = some (.int .i64 cy)) :
    Calls Tryz.prog 50 #[.pointer (some ⟨b0, 0, none⟩), .pointer (some ⟨b1, 0, none⟩), .pointer (some ⟨b2, 0, none⟩), .pointer (some ⟨b3, 0, none⟩)] w fun e w' => e = .returned (.bool (Pl.ptsB p [(ax, ay), (bx, by_), (cx, cy)])) ∧ Below w.heap.size w w' := by
  go_enter Tryz.func50, Tryz.ntmps50
  go_wp2_with fail
  refine (arePoints_any p _ 0 3 3 [(ax, ay), (bx, by_), (cx, cy)] rfl (by omega) _ (by simp) ?_).mono ?_
  · intro j hj
    match j, hj with
    | 0, _ => exact ⟨by go_simp, by go_simp⟩
    | 1, _ => exact ⟨by go_simp, by go_simp⟩
    | 2, _ => exact ⟨by go_simp, by go_simp⟩
  · rintro e w' ⟨rfl, hb⟩
    go_wp2_with fail
    go_ret
    exact ⟨rfl, below_of (by go_grown) hb (by simp <;> omega)⟩
theorem RatioOf_any (p ax ay bx by_ cx cy : Int) (w : World) :
    Calls Tryz.prog 15 #[.int .i64 p, .agg #[.int .i64 ax, .int .i64 ay], .agg #[.int .i64 bx, .int .i64 by_], .agg #[.int .i64 cx, .int .i64 cy]] w fun e w' => e = .returned (.tuple #[.int .i64 ((Pl.ratOf p ax ay bx by_ cx cy).1), .int .i64 ((Pl.ratOf p ax ay bx by_ cx cy).2)]) ∧ Below w.heap.size w w' := by
  by_cases h0 : Pl.ask p (Pl.ptsB p [(ax, ay), (bx, by_), (cx, cy)]) = 0
  · have hfin : Hid (Pl.ratOf p ax ay bx by_ cx cy = (if ax = bx ∧ ay = by_ then (0, 5) else if Pl.rat p ax ay bx by_ cx cy = -1 then (0, 5) else (Pl.rat p ax ay bx by_ cx cy, 0))) := by unfold Hid Pl.ratOf; rw [if_pos h0]
    have hv : Hid (Pl.fieldB p = true ∧ (Pl.ptsB p [(ax, ay), (bx, by_), (cx, cy)]) = true) := Pl.ask_ok h0
    have hp := Pl.field_bd hv.out.1
    obtain ⟨hp1, hp2⟩ := hp
    obtain ⟨⟨ax1, ax2, ay1, ay2⟩, ⟨bx1, bx2, by_1, by_2⟩, cx1, cx2, cy1, cy2⟩ := Pl.pts3_bd hv.out.2
    have hf := hv.out.1
    go_enter Tryz.func15, Tryz.ntmps15
    go_wp2_with fail
    refine (asked_any p _ _ (Pl.ptsB p [(ax, ay), (bx, by_), (cx, cy)]) _ (by kernel_rfl) ?_).mono ?_
    · intro _
      exact RatioOf1_any p ax ay bx by_ cx cy _ _ _ _ _ (by go_simp) (by go_simp) (by go_simp) (by go_simp) (by go_simp) (by go_simp) (by go_simp)
    · rintro e w1 ⟨rfl, hb⟩
      have c00 : w1.cell? ⟨w.heap.size, 0, none⟩ = some (.int .i64 p) := cellOf hb (by go_simp) (by simp <;> omega)
      have c10 : w1.cell? ⟨w.heap.size + 1, 0, none⟩ = some (.int .i64 ax) := cellOf hb (by go_simp) (by simp <;> omega)
      have c11 : w1.cell? ⟨w.heap.size + 1, 1, none⟩ = some (.int .i64 ay) := cellOf hb (by go_simp) (by simp <;> omega)
      have c20 : w1.cell? ⟨w.heap.size + 2, 0, none⟩ = some (.int .i64 bx) := cellOf hb (by go_simp) (by simp <;> omega)
      have c21 : w1.cell? ⟨w.heap.size + 2, 1, none⟩ = some (.int .i64 by_) := cellOf hb (by go_simp) (by simp <;> omega)
      have c30 : w1.cell? ⟨w.heap.size + 3, 0, none⟩ = some (.int .i64 cx) := cellOf hb (by go_simp) (by simp <;> omega)
      have c31 : w1.cell? ⟨w.heap.size + 3, 1, none⟩ = some (.int .i64 cy) := cellOf hb (by go_simp) (by simp <;> omega)
      have hz : w.heap.size + 4 ≤ w1.heap.size := by have := hb.size; simp at this; omega
      have hB : Below w.heap.size w w1 := below_of (by go_grown) hb (by simp <;> omega)
      clear hb
      by_cases heq : ax = bx ∧ ay = by_
      · have hq : ∀ w', (Op.equalIn 10000 29 (.agg #[.int .i64 ax, .int .i64 ay]) (.agg #[.int .i64 bx, .int .i64 by_])).run Tryz.prog w' = .ok (true) w' := fun w' => by rw [eqPt_small w' (by omega) (by omega) (by omega) (by omega) (by omega) (by omega) (by omega) (by omega), show (ax == bx && ay == by_) = true by simp [heq.1, heq.2]]
        have hcs := hid heq
        clear heq
        go_wp2_with fail
        go_ret2
        exact ⟨ret_ii (by rw [hfin.out, if_pos hcs.out]) (by rw [hfin.out, if_pos hcs.out]), hB⟩
      · have hq : ∀ w', (Op.equalIn 10000 29 (.agg #[.int .i64 ax, .int .i64 ay]) (.agg #[.int .i64 bx, .int .i64 by_])).run Tryz.prog w' = .ok (false) w' := fun w' => by rw [eqPt_small w' (by omega) (by omega) (by omega) (by omega) (by omega) (by omega) (by omega) (by omega), show (ax == bx && ay == by_) = false by simpa using heq]
        have hcs := hid heq
        clear heq
        go_wp2_with fail
        go_loopw [11] (fun i wr => ∃ k : Nat, (k : Int) ≤ p ∧ i = .int .i64 k ∧ wr.cell? ⟨w.heap.size, 0, none⟩ = some (.int .i64 p) ∧ wr.cell? ⟨w.heap.size + 1, 0, none⟩ = some (.int .i64 ax) ∧ wr.cell? ⟨w.heap.size + 1, 1, none⟩ = some (.int .i64 ay) ∧ wr.cell? ⟨w.heap.size + 1 + 1, 0, none⟩ = some (.int .i64 bx) ∧ wr.cell? ⟨w.heap.size + 1 + 1, 1, none⟩ = some (.int .i64 by_) ∧ wr.cell? ⟨w.heap.size + 1 + 1 + 1, 0, none⟩ = some (.int .i64 cx) ∧ wr.cell? ⟨w.heap.size + 1 + 1 + 1, 1, none⟩ = some (.int .i64 cy) ∧ Below w.heap.size w wr ∧ Hid (Pl.rat p ax ay bx by_ cx cy = Pl.ratFrom p ax ay bx by_ cx cy (p - k).toNat k)) (fun i _ => (p - intOf i).toNat)
        case atStart => exact ⟨0, by omega, rfl, c00, c10, c11, c20, c21, c30, c31, hB, by simp [Hid, Pl.rat]⟩
        case round =>
          clear c00 c10 c11 c20 c21 c30 c31 hB
          obtain ⟨k, hk, rfl, c00, c10, c11, c20, c21, c30, c31, hB, hrat⟩ := hrel
          by_cases hlt : (k : Int) < p
          · have hstep := hid (Pl.ratFrom_step (ax := ax) (ay := ay) (bx := bx) (by_ := by_) (cx := cx) (cy := cy) hlt)
            have cb1 := Pl.comb_bd (a := ax) (b := bx) (t := (k : Int)) (show 1 ≤ p by omega)
            have cb2 := Pl.comb_bd (a := ay) (b := by_) (t := (k : Int)) (show 1 ≤ p by omega)
            obtain ⟨cb11, cb12⟩ := cb1
            obtain ⟨cb21, cb22⟩ := cb2
            by_cases hc : Pl.comb p ax bx ↑k = cx ∧ Pl.comb p ay by_ ↑k = cy
            · have hq2 : ∀ w', (Op.equalIn 10000 29 (.agg #[.int .i64 (Pl.comb p ax bx ↑k), .int .i64 (Pl.comb p ay by_ ↑k)]) (.agg #[.int .i64 cx, .int .i64 cy])).run Tryz.prog w' = .ok (true) w' := fun w' => by rw [eqPt_small w' (by omega) (by omega) (by omega) (by omega) (by omega) (by omega) (by omega) (by omega)]; simp [hc.1, hc.2]
              have hr := hid (show Pl.rat p ax ay bx by_ cx cy = (k : Int) by rw [hrat.out, hstep.out, if_pos hc])
              clear hc hrat hstep
              go_wp2_with fail
              refine Reg.wp_region_grow (by kernel_rfl) 7 7 (fun _ => (#[.int .i64 0, .int .i64 0], 0)) (by kernel_rfl) ?_ ?_
              · intro k o h1 h2
                omega
              simp only [List.take_succ_cons, List.take_zero, List.drop_succ_cons, List.drop_zero]
              refine Reg.wpG_step (v := ?vr1x0) (fun wq hq => ?gr1x0) ?kr1x0
              case gr1x0 => (have q0 := keepC hq c00; have q1 := keepC hq c10; have q2 := keepC hq c11; have q3 := keepC hq c20; have q4 := keepC hq c21; have q5 := keepC hq c30; have q6 := keepC hq c31; refine Reg.gAt_val ?_; go_simp; first | done | (with_reducible rfl) | rfl)
              try simp only [Act.put, List.setIfInBounds_toArray, List.set_cons_zero, List.set_cons_succ]
              refine Reg.wpG_step (v := ?vr1x1) (fun wq hq => ?gr1x1) ?kr1x1
              case gr1x1 => (have q0 := keepC hq c00; have q1 := keepC hq c10; have q2 := keepC hq c11; have q3 := keepC hq c20; have q4 := keepC hq c21; have q5 := keepC hq c30; have q6 := keepC hq c31; refine Reg.gAt_val ?_; go_simp; first | done | (with_reducible rfl) | rfl)
              try simp only [Act.put, List.setIfInBounds_toArray, List.set_cons_zero, List.set_cons_succ]
              refine Reg.wpG_step (v := ?vr1x2) (fun wq hq => ?gr1x2) ?kr1x2
              case gr1x2 => (have q0 := keepC hq c00; have q1 := keepC hq c10; have q2 := keepC hq c11; have q3 := keepC hq c20; have q4 := keepC hq c21; have q5 := keepC hq c30; have q6 := keepC hq c31; refine Reg.gAt_val ?_; go_simp; first | done | (with_reducible rfl) | rfl)
              try simp only [Act.put, List.setIfInBounds_toArray, List.set_cons_zero, List.set_cons_succ]
              refine Reg.wpG_step (v := ?vr1x3) (fun wq hq => ?gr1x3) ?kr1x3
              case gr1x3 => (have q0 := keepC hq c00; have q1 := keepC hq c10; have q2 := keepC hq c11; have q3 := keepC hq c20; have q4 := keepC hq c21; have q5 := keepC hq c30; have q6 := keepC hq c31; refine Reg.gAt_val ?_; go_simp; first | done | (with_reducible rfl) | rfl)
              try simp only [Act.put, List.setIfInBounds_toArray, List.set_cons_zero, List.set_cons_succ]
              refine Reg.wpG_step (v := .agg #[.int .i64 (Pl.comb p ax bx ↑k), .int .i64 (Pl.comb p ay by_ ↑k)]) (fun wq hq => ?gr1x4) ?kr1x4
              case gr1x4 => (unfold Reg.gAt; go_simp; refine Reg.quiet_enter ?_; exact combination_any _ _ _ _ _ _ _ (by omega) (by omega) (by omega) (by omega) (by omega) (by omega) (by omega) (by omega) (by omega) (by omega) (by omega) (by omega))
              try simp only [Act.put, List.setIfInBounds_toArray, List.set_cons_zero, List.set_cons_succ]
              refine Reg.wpG_step (v := ?vr1x5) (fun wq hq => ?gr1x5) ?kr1x5
              case gr1x5 => (have q0 := keepC hq c00; have q1 := keepC hq c10; have q2 := keepC hq c11; have q3 := keepC hq c20; have q4 := keepC hq c21; have q5 := keepC hq c30; have q6 := keepC hq c31; refine Reg.gAt_val ?_; go_simp; first | done | (with_reducible rfl) | rfl)
              try simp only [Act.put, List.setIfInBounds_toArray, List.set_cons_zero, List.set_cons_succ]
              refine Reg.wpG_step (v := ?vr1x6) (fun wq hq => ?gr1x6) ?kr1x6
              case gr1x6 => (have q0 := keepC hq c00; have q1 := keepC hq c10; have q2 := keepC hq c11; have q3 := keepC hq c20; have q4 := keepC hq c21; have q5 := keepC hq c30; have q6 := keepC hq c31; refine Reg.gAt_val ?_; go_simp; first | done | (with_reducible rfl) | rfl)
              try simp only [Act.put, List.setIfInBounds_toArray, List.set_cons_zero, List.set_cons_succ]
              intro w2 g hB2 hg hd
              clear hg hd
              change wpList _ _ _ _ (Reg.putPtrs _ g [] _) _
              simp only [Reg.putPtrs]
              replace c00 := keepC hB2 c00
              replace c10 := keepC hB2 c10
              replace c11 := keepC hB2 c11
              replace c20 := keepC hB2 c20
              replace c21 := keepC hB2 c21
              replace c30 := keepC hB2 c30
              replace c31 := keepC hB2 c31
              replace hB := below_of hB hB2 hB.size
              clear hB2 
              go_wp2_with fail
              go_ret2
              exact ⟨ret_ii (by rw [hfin.out, if_neg hcs.out, if_neg (by rw [hr.out]; omega), hr.out]) (by rw [hfin.out, if_neg hcs.out, if_neg (by rw [hr.out]; omega)]), hB⟩
            · have hq2 : ∀ w', (Op.equalIn 10000 29 (.agg #[.int .i64 (Pl.comb p ax bx ↑k), .int .i64 (Pl.comb p ay by_ ↑k)]) (.agg #[.int .i64 cx, .int .i64 cy])).run Tryz.prog w' = .ok (false) w' := fun w' => by rw [eqPt_small w' (by omega) (by omega) (by omega) (by omega) (by omega) (by omega) (by omega) (by omega), show (Pl.comb p ax bx ↑k == cx && Pl.comb p ay by_ ↑k == cy) = false by simpa using hc]
              have hr := hid (show Pl.rat p ax ay bx by_ cx cy = Pl.ratFrom p ax ay bx by_ cx cy (p - ((k : Int) + 1)).toNat ((k : Int) + 1) by rw [hrat.out, hstep.out, if_neg hc])
              clear hc hrat hstep
              go_wp2_with fail
              refine Reg.wp_region_grow (by kernel_rfl) 7 7 (fun _ => (#[.int .i64 0, .int .i64 0], 0)) (by kernel_rfl) ?_ ?_
              · intro k o h1 h2
                omega
              simp only [List.take_succ_cons, List.take_zero, List.drop_succ_cons, List.drop_zero]
              refine Reg.wpG_step (v := ?vr2x0) (fun wq hq => ?gr2x0) ?kr2x0
              case gr2x0 => (have q0 := keepC hq c00; have q1 := keepC hq c10; have q2 := keepC hq c11; have q3 := keepC hq c20; have q4 := keepC hq c21; have q5 := keepC hq c30; have q6 := keepC hq c31; refine Reg.gAt_val ?_; go_simp; first | done | (with_reducible rfl) | rfl)
              try simp only [Act.put, List.setIfInBounds_toArray, List.set_cons_zero, List.set_cons_succ]
              refine Reg.wpG_step (v := ?vr2x1) (fun wq hq => ?gr2x1) ?kr2x1
              case gr2x1 => (have q0 := keepC hq c00; have q1 := keepC hq c10; have q2 := keepC hq c11; have q3 := keepC hq c20; have q4 := keepC hq c21; have q5 := keepC hq c30; have q6 := keepC hq c31; refine Reg.gAt_val ?_; go_simp; first | done | (with_reducible rfl) | rfl)
              try simp only [Act.put, List.setIfInBounds_toArray, List.set_cons_zero, List.set_cons_succ]
              refine Reg.wpG_step (v := ?vr2x2) (fun wq hq => ?gr2x2) ?kr2x2
              case gr2x2 => (have q0 := keepC hq c00; have q1 := keepC hq c10; have q2 := keepC hq c11; have q3 := keepC hq c20; have q4 := keepC hq c21; have q5 := keepC hq c30; have q6 := keepC hq c31; refine Reg.gAt_val ?_; go_simp; first | done | (with_reducible rfl) | rfl)
              try simp only [Act.put, List.setIfInBounds_toArray, List.set_cons_zero, List.set_cons_succ]
              refine Reg.wpG_step (v := ?vr2x3) (fun wq hq => ?gr2x3) ?kr2x3
              case gr2x3 => (have q0 := keepC hq c00; have q1 := keepC hq c10; have q2 := keepC hq c11; have q3 := keepC hq c20; have q4 := keepC hq c21; have q5 := keepC hq c30; have q6 := keepC hq c31; refine Reg.gAt_val ?_; go_simp; first | done | (with_reducible rfl) | rfl)
              try simp only [Act.put, List.setIfInBounds_toArray, List.set_cons_zero, List.set_cons_succ]
              refine Reg.wpG_step (v := .agg #[.int .i64 (Pl.comb p ax bx ↑k), .int .i64 (Pl.comb p ay by_ ↑k)]) (fun wq hq => ?gr2x4) ?kr2x4
              case gr2x4 => (unfold Reg.gAt; go_simp; refine Reg.quiet_enter ?_; exact combination_any _ _ _ _ _ _ _ (by omega) (by omega) (by omega) (by omega) (by omega) (by omega) (by omega) (by omega) (by omega) (by omega) (by omega) (by omega))
              try simp only [Act.put, List.setIfInBounds_toArray, List.set_cons_zero, List.set_cons_succ]
              refine Reg.wpG_step (v := ?vr2x5) (fun wq hq => ?gr2x5) ?kr2x5
              case gr2x5 => (have q0 := keepC hq c00; have q1 := keepC hq c10; have q2 := keepC hq c11; have q3 := keepC hq c20; have q4 := keepC hq c21; have q5 := keepC hq c30; have q6 := keepC hq c31; refine Reg.gAt_val ?_; go_simp; first | done | (with_reducible rfl) | rfl)
              try simp only [Act.put, List.setIfInBounds_toArray, List.set_cons_zero, List.set_cons_succ]
              refine Reg.wpG_step (v := ?vr2x6) (fun wq hq => ?gr2x6) ?kr2x6
              case gr2x6 => (have q0 := keepC hq c00; have q1 := keepC hq c10; have q2 := keepC hq c11; have q3 := keepC hq c20; have q4 := keepC hq c21; have q5 := keepC hq c30; have q6 := keepC hq c31; refine Reg.gAt_val ?_; go_simp; first | done | (with_reducible rfl) | rfl)
              try simp only [Act.put, List.setIfInBounds_toArray, List.set_cons_zero, List.set_cons_succ]
              intro w2 g hB2 hg hd
              clear hg hd
              change wpList _ _ _ _ (Reg.putPtrs _ g [] _) _
              simp only [Reg.putPtrs]
              replace c00 := keepC hB2 c00
              replace c10 := keepC hB2 c10
              replace c11 := keepC hB2 c11
              replace c20 := keepC hB2 c20
              replace c21 := keepC hB2 c21
              replace c30 := keepC hB2 c30
              replace c31 := keepC hB2 c31
              replace hB := below_of hB hB2 hB.size
              clear hB2 
              go_wp2_with fail
              go_roundw
              case rel => exact ⟨k + 1, by omega, by go_num, c00, c10, c11, c20, c21, c30, c31, hB, by simpa [Hid] using hr.out⟩
              case measure => simp [intOf]; omega
          · have hr := hid (show Pl.rat p ax ay bx by_ cx cy = -1 by rw [hrat.out, show (p - (k : Int)).toNat = 0 by omega]; rfl)
            clear hrat
            go_wp2_with fail
            go_ret2
            exact ⟨ret_ii (by rw [hfin.out, if_neg hcs.out, if_pos hr.out]) (by rw [hfin.out, if_neg hcs.out, if_pos hr.out]), hB⟩
  · have hne : (Pl.ask p (Pl.ptsB p [(ax, ay), (bx, by_), (cx, cy)]) != 0) = true := by simpa using h0
    have hfin : Hid (Pl.ratOf p ax ay bx by_ cx cy = (0, Pl.ask p (Pl.ptsB p [(ax, ay), (bx, by_), (cx, cy)]))) := by unfold Hid Pl.ratOf; rw [if_neg h0]
    clear h0
    go_enter Tryz.func15, Tryz.ntmps15
    go_wp2_with fail
    refine (asked_any p _ _ (Pl.ptsB p [(ax, ay), (bx, by_), (cx, cy)]) _ (by kernel_rfl) ?_).mono ?_
    · intro _
      exact RatioOf1_any p ax ay bx by_ cx cy _ _ _ _ _ (by go_simp) (by go_simp) (by go_simp) (by go_simp) (by go_simp) (by go_simp) (by go_simp)
    · rintro e w1 ⟨rfl, hb⟩
      have hB : Below w.heap.size w w1 := below_of (by go_grown) hb (by simp <;> omega)
      clear hb
      go_wp2_with fail
      go_ret2
      exact ⟨ret_ii (by rw [hfin.out]) (by rw [hfin.out]), hB⟩
theorem sRatioOf_any (p ax ay bx by_ cx cy : Int) (w : World) :
    Calls Tryz.prog 16 #[.int .i64 p, .agg #[.int .i64 ax, .int .i64 ay], .agg #[.int .i64 bx, .int .i64 by_], .agg #[.int .i64 cx, .int .i64 cy]] w fun e w' => e = .returned (.tuple #[.int .i64 ((Pl.ratOf p ax ay bx by_ cx cy).1), .int .i64 ((Pl.ratOf p ax ay bx by_ cx cy).2)]) ∧ Below w.heap.size w w' := by
  by_cases h0 : Pl.ask p (Pl.ptsB p [(ax, ay), (bx, by_), (cx, cy)]) = 0
  · have hfin : Hid (Pl.ratOf p ax ay bx by_ cx cy = (if ax = bx ∧ ay = by_ then (0, 5) else if Pl.rat p ax ay bx by_ cx cy = -1 then (0, 5) else (Pl.rat p ax ay bx by_ cx cy, 0))) := by unfold Hid Pl.ratOf; rw [if_pos h0]
    have hv : Hid (Pl.fieldB p = true ∧ (Pl.ptsB p [(ax, ay), (bx, by_), (cx, cy)]) = true) := Pl.ask_ok h0
    have hp := Pl.field_bd hv.out.1
    obtain ⟨hp1, hp2⟩ := hp
    obtain ⟨⟨ax1, ax2, ay1, ay2⟩, ⟨bx1, bx2, by_1, by_2⟩, cx1, cx2, cy1, cy2⟩ := Pl.pts3_bd hv.out.2
    have hf := hv.out.1
    go_enter Tryz.func16, Tryz.ntmps16
    go_wp2_with fail
    refine (l01Code_any p _ 0 3 3 [(ax, ay), (bx, by_), (cx, cy)] rfl (by omega) _ (by simp) ?_).mono ?_
    · intro j hj
      match j, hj with
      | 0, _ => exact ⟨by go_simp, by go_simp⟩
      | 1, _ => exact ⟨by go_simp, by go_simp⟩
      | 2, _ => exact ⟨by go_simp, by go_simp⟩
    · rintro e w1 ⟨rfl, hb⟩
      have c00 : w1.cell? ⟨w.heap.size, 0, none⟩ = some (.int .i64 ax) := keepC hb (by go_simp)
      have c01 : w1.cell? ⟨w.heap.size, 1, none⟩ = some (.int .i64 ay) := keepC hb (by go_simp)
      have c10 : w1.cell? ⟨w.heap.size + 1, 0, none⟩ = some (.int .i64 bx) := keepC hb (by go_simp)
      have c11 : w1.cell? ⟨w.heap.size + 1, 1, none⟩ = some (.int .i64 by_) := keepC hb (by go_simp)
      have c20 : w1.cell? ⟨w.heap.size + 1 + 1, 0, none⟩ = some (.int .i64 cx) := keepC hb (by go_simp)
      have c21 : w1.cell? ⟨w.heap.size + 1 + 1, 1, none⟩ = some (.int .i64 cy) := keepC hb (by go_simp)
      have hB : Below w.heap.size w w1 := below_of (by go_grown) hb (by simp <;> omega)
      clear hb
      by_cases heq : ax = bx ∧ ay = by_
      · have hq : ∀ w', (Op.equalIn 10000 29 (.agg #[.int .i64 ax, .int .i64 ay]) (.agg #[.int .i64 bx, .int .i64 by_])).run Tryz.prog w' = .ok (true) w' := fun w' => by rw [eqPt_small w' (by omega) (by omega) (by omega) (by omega) (by omega) (by omega) (by omega) (by omega), show (ax == bx && ay == by_) = true by simp [heq.1, heq.2]]
        have hcs := hid heq
        clear heq
        go_wp2_with fail
        go_ret2
        exact ⟨ret_ii (by rw [hfin.out, if_pos hcs.out]) (by rw [hfin.out, if_pos hcs.out]), hB⟩
      · have hq : ∀ w', (Op.equalIn 10000 29 (.agg #[.int .i64 ax, .int .i64 ay]) (.agg #[.int .i64 bx, .int .i64 by_])).run Tryz.prog w' = .ok (false) w' := fun w' => by rw [eqPt_small w' (by omega) (by omega) (by omega) (by omega) (by omega) (by omega) (by omega) (by omega), show (ax == bx && ay == by_) = false by simpa using heq]
        have hrat := hid (Pl.rat_eq (cx := cx) (cy := cy) hf ⟨ax1, ax2⟩ ⟨ay1, ay2⟩ ⟨bx1, bx2⟩ ⟨by_1, by_2⟩ ⟨cx1, cx2⟩ ⟨cy1, cy2⟩ heq)
        have hcs := hid heq
        clear heq
        by_cases har : Pl.area p ax ay bx by_ cx cy = 0
        · have fa : (Pl.area p ax ay bx by_ cx cy != 0) = false := by simpa using har
          have r1n := Int.emod_nonneg (bx - ax) (show p ≠ 0 by omega)
          have r1l := Int.emod_lt_of_pos (bx - ax) (show 0 < p by omega)
          have r2n := Int.emod_nonneg (by_ - ay) (show p ≠ 0 by omega)
          have r2l := Int.emod_lt_of_pos (by_ - ay) (show 0 < p by omega)
          have r3n := Int.emod_nonneg (cx - ax) (show p ≠ 0 by omega)
          have r3l := Int.emod_lt_of_pos (cx - ax) (show 0 < p by omega)
          have r4n := Int.emod_nonneg (cy - ay) (show p ≠ 0 by omega)
          have r4l := Int.emod_lt_of_pos (cy - ay) (show 0 < p by omega)
          by_cases hu : (bx - ax) % p = 0
          · have fu : ((bx - ax) % p != 0) = false := by simpa using hu
            have hR := hid (show Pl.rat p ax ay bx by_ cx cy = ((cy - ay) % p * Pl.inv p ((by_ - ay) % p)) % p by rw [hrat.out, if_pos har]; unfold Pl.ratS; rw [if_neg (by simpa using hu)])
            have hi := Pl.inv_bd (a := by_ - ay) hf
            obtain ⟨hi1, hi2⟩ := hi
            have hm := Pl.mulB (show 0 ≤ (cy - ay) % p by omega) (show (cy - ay) % p ≤ 31 by omega) (show 0 ≤ Pl.inv p ((by_ - ay) % p) by omega) (show Pl.inv p ((by_ - ay) % p) ≤ 31 by omega)
            obtain ⟨hm1, hm2⟩ := hm
            have hV := Int.emod_nonneg ((cy - ay) % p * Pl.inv p ((by_ - ay) % p)) (show p ≠ 0 by omega)
            clear har hu hrat
            go_wp2_with (go_at_call 54; refine (l01Area_any _ _ _ _ _ _ _ _ (by omega) (by omega) (by omega) (by omega) (by omega) (by omega) (by omega) (by omega) (by omega) (by omega) (by omega) (by omega) (by omega) (by omega)).mono ?_; rintro e w' ⟨rfl, hbn⟩; replace c00 := keepC hbn (by first | exact c00 | exact keepA _ c00 | exact keepA _ (keepA _ c00)); replace c01 := keepC hbn (by first | exact c01 | exact keepA _ c01 | exact keepA _ (keepA _ c01)); replace c10 := keepC hbn (by first | exact c10 | exact keepA _ c10 | exact keepA _ (keepA _ c10)); replace c11 := keepC hbn (by first | exact c11 | exact keepA _ c11 | exact keepA _ (keepA _ c11)); replace c20 := keepC hbn (by first | exact c20 | exact keepA _ c20 | exact keepA _ (keepA _ c20)); replace c21 := keepC hbn (by first | exact c21 | exact keepA _ c21 | exact keepA _ (keepA _ c21)); replace hB := below_of (B := w.heap.size) (a := w) (by first | exact hB | (have := hB.size; go_grown)) hbn (by first | exact hB.size | (have := hB.size; simp <;> omega)); clear hbn)
            refine Reg.wp_region_grow (by kernel_rfl) 8 10 (fun _ => (#[.int .i64 0, .int .i64 0], 29)) (by kernel_rfl) ?_ ?_
            · intro k o h1 h2 ho ρ wz
              obtain rfl | rfl : k = 8 ∨ k = 9 := by omega
              all_goals (simp at ho; subst ho; exact alloc_pt _ _ _ _)
            simp only [List.take_succ_cons, List.take_zero, List.drop_succ_cons, List.drop_zero]
            refine Reg.wpG_step (v := ?vr3x0) (fun wq hq => ?gr3x0) ?kr3x0
            case gr3x0 => (have q0 := keepC hq c00; have q1 := keepC hq c01; have q2 := keepC hq c10; have q3 := keepC hq c11; have q4 := keepC hq c20; have q5 := keepC hq c21; refine Reg.gAt_val ?_; go_simp; first | done | (with_reducible rfl) | rfl)
            try simp only [Act.put, List.setIfInBounds_toArray, List.set_cons_zero, List.set_cons_succ]
            refine Reg.wpG_step (v := ?vr3x1) (fun wq hq => ?gr3x1) ?kr3x1
            case gr3x1 => (have q0 := keepC hq c00; have q1 := keepC hq c01; have q2 := keepC hq c10; have q3 := keepC hq c11; have q4 := keepC hq c20; have q5 := keepC hq c21; refine Reg.gAt_val ?_; go_simp; first | done | (with_reducible rfl) | rfl)
            try simp only [Act.put, List.setIfInBounds_toArray, List.set_cons_zero, List.set_cons_succ]
            refine Reg.wpG_step (v := ?vr3x2) (fun wq hq => ?gr3x2) ?kr3x2
            case gr3x2 => (have q0 := keepC hq c00; have q1 := keepC hq c01; have q2 := keepC hq c10; have q3 := keepC hq c11; have q4 := keepC hq c20; have q5 := keepC hq c21; refine Reg.gAt_val ?_; go_simp; first | done | (with_reducible rfl) | rfl)
            try simp only [Act.put, List.setIfInBounds_toArray, List.set_cons_zero, List.set_cons_succ]
            refine Reg.wpG_step (v := .agg #[.int .i64 ((bx - ax) % p), .int .i64 ((by_ - ay) % p)]) (fun wq hq => ?gr3x3) ?kr3x3
            case gr3x3 => (unfold Reg.gAt; go_simp; refine Reg.quiet_enter ?_; exact l01Minus_any _ _ _ _ _ _ (by omega) (by omega) (by omega) (by omega) (by omega) (by omega) (by omega) (by omega) (by omega) (by omega))
            try simp only [Act.put, List.setIfInBounds_toArray, List.set_cons_zero, List.set_cons_succ]
            refine Reg.wpG_step (v := ?vr3x4) (fun wq hq => ?gr3x4) ?kr3x4
            case gr3x4 => (have q0 := keepC hq c00; have q1 := keepC hq c01; have q2 := keepC hq c10; have q3 := keepC hq c11; have q4 := keepC hq c20; have q5 := keepC hq c21; refine Reg.gAt_val ?_; go_simp; first | done | (with_reducible rfl) | rfl)
            try simp only [Act.put, List.setIfInBounds_toArray, List.set_cons_zero, List.set_cons_succ]
            refine Reg.wpG_step (v := ?vr3x5) (fun wq hq => ?gr3x5) ?kr3x5
            case gr3x5 => (have q0 := keepC hq c00; have q1 := keepC hq c01; have q2 := keepC hq c10; have q3 := keepC hq c11; have q4 := keepC hq c20; have q5 := keepC hq c21; refine Reg.gAt_val ?_; go_simp; first | done | (with_reducible rfl) | rfl)
            try simp only [Act.put, List.setIfInBounds_toArray, List.set_cons_zero, List.set_cons_succ]
            refine Reg.wpG_step (v := ?vr3x6) (fun wq hq => ?gr3x6) ?kr3x6
            case gr3x6 => (have q0 := keepC hq c00; have q1 := keepC hq c01; have q2 := keepC hq c10; have q3 := keepC hq c11; have q4 := keepC hq c20; have q5 := keepC hq c21; refine Reg.gAt_val ?_; go_simp; first | done | (with_reducible rfl) | rfl)
            try simp only [Act.put, List.setIfInBounds_toArray, List.set_cons_zero, List.set_cons_succ]
            refine Reg.wpG_step (v := .agg #[.int .i64 ((cx - ax) % p), .int .i64 ((cy - ay) % p)]) (fun wq hq => ?gr3x7) ?kr3x7
            case gr3x7 => (unfold Reg.gAt; go_simp; refine Reg.quiet_enter ?_; exact l01Minus_any _ _ _ _ _ _ (by omega) (by omega) (by omega) (by omega) (by omega) (by omega) (by omega) (by omega) (by omega) (by omega))
            try simp only [Act.put, List.setIfInBounds_toArray, List.set_cons_zero, List.set_cons_succ]
            intro w2 g hB2 hg hd
            obtain ⟨hge8, hblk8⟩ := hg 8 (by omega) (by omega)
            obtain ⟨hge9, hblk9⟩ := hg 9 (by omega) (by omega)
            have hne89 : ¬ g 8 = g 9 := hd 8 9 (by omega) (by omega) (by omega) (by omega) (by omega)
            have hnf89 : ¬ g 9 = g 8 := fun e => hne89 e.symm
            clear hg hd
            simp only [List.range'_succ, List.range'_zero, Reg.putPtrs, Reg.dst, Act.put, List.setIfInBounds_toArray, List.set_cons_zero, List.set_cons_succ, List.getElem?_cons_zero, List.getElem?_cons_succ, Option.bind_some]
            generalize g 8 = g8 at *
            generalize g 9 = g9 at *
            obtain ⟨z80, z81, y80, y81⟩ := Reg.blk2 hblk8
            obtain ⟨z90, z91, y90, y91⟩ := Reg.blk2 hblk9
            clear hblk8 hblk9
            have hgw8 : w.heap.size ≤ g8 := Nat.le_trans hB.size hge8
            have hgw9 : w.heap.size ≤ g9 := Nat.le_trans hB.size hge9
            replace c00 := keepC hB2 c00
            replace c01 := keepC hB2 c01
            replace c10 := keepC hB2 c10
            replace c11 := keepC hB2 c11
            replace c20 := keepC hB2 c20
            replace c21 := keepC hB2 c21
            replace hB := below_of hB hB2 hB.size
            clear hB2 hge8 hge9
            go_wp2_with fail
            generalize hW3 : (World.setCell (World.setCell (World.setCell (World.setCell w2 ⟨g8, 0, none⟩ (.int .i64 ((bx - ax) % p))) ⟨g8, 1, none⟩ (.int .i64 ((by_ - ay) % p))) ⟨g9, 0, none⟩ (.int .i64 ((cx - ax) % p))) ⟨g9, 1, none⟩ (.int .i64 ((cy - ay) % p))) = W3
            have s8 : W3.cell? ⟨g8, 1, none⟩ = some (.int .i64 ((by_ - ay) % p)) := by rw [← hW3]; simp [World.cell?_setCell_other, World.cell?_setCell_same, z80, z81, z90, z91, hne89, hnf89]
            have s9 : W3.cell? ⟨g9, 1, none⟩ = some (.int .i64 ((cy - ay) % p)) := by rw [← hW3]; simp [World.cell?_setCell_other, World.cell?_setCell_same, z80, z81, z90, z91, hne89, hnf89]
            replace hB : Below w.heap.size w W3 := by rw [← hW3]; go_grown
            clear hW3
            have hw1 : IntKind.i64.wrap ((cy - ay) % p * Pl.inv p ((by_ - ay) % p)) = ((cy - ay) % p * Pl.inv p ((by_ - ay) % p)) := IntWalk.i64_in _ (by omega)
            have ht1 : Int.tmod ((cy - ay) % p * Pl.inv p ((by_ - ay) % p)) p = ((cy - ay) % p * Pl.inv p ((by_ - ay) % p)) % p := Int.tmod_eq_emod_of_nonneg hm1
            have hp0 : ¬ p = 0 := by omega
            refine Reg.wp_region_grow (by kernel_rfl) 11 11 (fun _ => (#[.int .i64 0, .int .i64 0], 0)) (by kernel_rfl) ?_ ?_
            · intro k o h1 h2
              omega
            simp only [List.take_succ_cons, List.take_zero, List.drop_succ_cons, List.drop_zero]
            refine Reg.wpG_step (v := ?vr4x0) (fun wq hq => ?gr4x0) ?kr4x0
            case gr4x0 => (have q0 := keepC hq s8; have q1 := keepC hq s9; refine Reg.gAt_val ?_; go_simp; first | done | (with_reducible rfl) | rfl)
            try simp only [Act.put, List.setIfInBounds_toArray, List.set_cons_zero, List.set_cons_succ]
            refine Reg.wpG_step (v := ?vr4x1) (fun wq hq => ?gr4x1) ?kr4x1
            case gr4x1 => (have q0 := keepC hq s8; have q1 := keepC hq s9; refine Reg.gAt_val ?_; go_simp; first | done | (with_reducible rfl) | rfl)
            try simp only [Act.put, List.setIfInBounds_toArray, List.set_cons_zero, List.set_cons_succ]
            refine Reg.wpG_step (v := ?vr4x2) (fun wq hq => ?gr4x2) ?kr4x2
            case gr4x2 => (have q0 := keepC hq s8; have q1 := keepC hq s9; refine Reg.gAt_val ?_; go_simp; first | done | (with_reducible rfl) | rfl)
            try simp only [Act.put, List.setIfInBounds_toArray, List.set_cons_zero, List.set_cons_succ]
            refine Reg.wpG_step (v := ?vr4x3) (fun wq hq => ?gr4x3) ?kr4x3
            case gr4x3 => (have q0 := keepC hq s8; have q1 := keepC hq s9; refine Reg.gAt_val ?_; go_simp; first | done | (with_reducible rfl) | rfl)
            try simp only [Act.put, List.setIfInBounds_toArray, List.set_cons_zero, List.set_cons_succ]
            refine Reg.wpG_step (v := ?vr4x4) (fun wq hq => ?gr4x4) ?kr4x4
            case gr4x4 => (have q0 := keepC hq s8; have q1 := keepC hq s9; refine Reg.gAt_val ?_; go_simp; first | done | (with_reducible rfl) | rfl)
            try simp only [Act.put, List.setIfInBounds_toArray, List.set_cons_zero, List.set_cons_succ]
            refine Reg.wpG_step (v := .int .i64 (Pl.inv p ((by_ - ay) % p))) (fun wq hq => ?gr4x5) ?kr4x5
            case gr4x5 => (unfold Reg.gAt; go_simp; refine Reg.quiet_enter ?_; exact (l01Inverse_any _ _ _ hf).mono fun e w5 ⟨he, hw⟩ => ⟨he.trans (ret_int (by rw [Int.emod_emod])), hw ▸ Below.refl _ _⟩)
            try simp only [Act.put, List.setIfInBounds_toArray, List.set_cons_zero, List.set_cons_succ]
            refine Reg.wpG_step (v := ?vr4x6) (fun wq hq => ?gr4x6) ?kr4x6
            case gr4x6 => (have q0 := keepC hq s8; have q1 := keepC hq s9; refine Reg.gAt_val ?_; go_simp; first | done | (with_reducible rfl) | rfl)
            try simp only [Act.put, List.setIfInBounds_toArray, List.set_cons_zero, List.set_cons_succ]
            refine Reg.wpG_step (v := ?vr4x7) (fun wq hq => ?gr4x7) ?kr4x7
            case gr4x7 => (have q0 := keepC hq s8; have q1 := keepC hq s9; refine Reg.gAt_val ?_; go_simp; first | done | (with_reducible rfl) | rfl)
            try simp only [Act.put, List.setIfInBounds_toArray, List.set_cons_zero, List.set_cons_succ]
            refine Reg.wpG_step (v := ?vr4x8) (fun wq hq => ?gr4x8) ?kr4x8
            case gr4x8 => (have q0 := keepC hq s8; have q1 := keepC hq s9; refine Reg.gAt_val ?_; go_simp; first | done | (with_reducible rfl) | rfl)
            try simp only [Act.put, List.setIfInBounds_toArray, List.set_cons_zero, List.set_cons_succ]
            refine Reg.wpG_step (v := ?vr4x9) (fun wq hq => ?gr4x9) ?kr4x9
            case gr4x9 => (have q0 := keepC hq s8; have q1 := keepC hq s9; refine Reg.gAt_val ?_; go_simp; first | done | (with_reducible rfl) | rfl)
            try simp only [Act.put, List.setIfInBounds_toArray, List.set_cons_zero, List.set_cons_succ]
            refine Reg.wpG_step (v := ?vr4x10) (fun wq hq => ?gr4x10) ?kr4x10
            case gr4x10 => (have q0 := keepC hq s8; have q1 := keepC hq s9; refine Reg.gAt_val ?_; go_simp; first | done | (with_reducible rfl) | rfl)
            try simp only [Act.put, List.setIfInBounds_toArray, List.set_cons_zero, List.set_cons_succ]
            intro w2 g hB2 hg hd
            clear hg hd
            change wpList _ _ _ _ (Reg.putPtrs _ g [] _) _
            simp only [Reg.putPtrs]
            replace s8 := keepC hB2 s8
            replace s9 := keepC hB2 s9
            replace hB := below_of hB hB2 hB.size
            clear hB2 
            go_wp2_with fail
            go_ret2
            exact ⟨ret_ii (by rw [hfin.out, if_neg hcs.out, if_neg (by rw [hR.out]; omega), hR.out]) (by rw [hfin.out, if_neg hcs.out, if_neg (by rw [hR.out]; omega)]), hB⟩
          · have fu : ((bx - ax) % p != 0) = true := by simpa using hu
            have hR := hid (show Pl.rat p ax ay bx by_ cx cy = ((cx - ax) % p * Pl.inv p ((bx - ax) % p)) % p by rw [hrat.out, if_pos har]; unfold Pl.ratS; rw [if_pos hu])
            have hi := Pl.inv_bd (a := bx - ax) hf
            obtain ⟨hi1, hi2⟩ := hi
            have hm := Pl.mulB (show 0 ≤ (cx - ax) % p by omega) (show (cx - ax) % p ≤ 31 by omega) (show 0 ≤ Pl.inv p ((bx - ax) % p) by omega) (show Pl.inv p ((bx - ax) % p) ≤ 31 by omega)
            obtain ⟨hm1, hm2⟩ := hm
            have hV := Int.emod_nonneg ((cx - ax) % p * Pl.inv p ((bx - ax) % p)) (show p ≠ 0 by omega)
            clear har hu hrat
            go_wp2_with (go_at_call 54; refine (l01Area_any _ _ _ _ _ _ _ _ (by omega) (by omega) (by omega) (by omega) (by omega) (by omega) (by omega) (by omega) (by omega) (by omega) (by omega) (by omega) (by omega) (by omega)).mono ?_; rintro e w' ⟨rfl, hbn⟩; replace c00 := keepC hbn (by first | exact c00 | exact keepA _ c00 | exact keepA _ (keepA _ c00)); replace c01 := keepC hbn (by first | exact c01 | exact keepA _ c01 | exact keepA _ (keepA _ c01)); replace c10 := keepC hbn (by first | exact c10 | exact keepA _ c10 | exact keepA _ (keepA _ c10)); replace c11 := keepC hbn (by first | exact c11 | exact keepA _ c11 | exact keepA _ (keepA _ c11)); replace c20 := keepC hbn (by first | exact c20 | exact keepA _ c20 | exact keepA _ (keepA _ c20)); replace c21 := keepC hbn (by first | exact c21 | exact keepA _ c21 | exact keepA _ (keepA _ c21)); replace hB := below_of (B := w.heap.size) (a := w) (by first | exact hB | (have := hB.size; go_grown)) hbn (by first | exact hB.size | (have := hB.size; simp <;> omega)); clear hbn)
            refine Reg.wp_region_grow (by kernel_rfl) 8 10 (fun _ => (#[.int .i64 0, .int .i64 0], 29)) (by kernel_rfl) ?_ ?_
            · intro k o h1 h2 ho ρ wz
              obtain rfl | rfl : k = 8 ∨ k = 9 := by omega
              all_goals (simp at ho; subst ho; exact alloc_pt _ _ _ _)
            simp only [List.take_succ_cons, List.take_zero, List.drop_succ_cons, List.drop_zero]
            refine Reg.wpG_step (v := ?vr5x0) (fun wq hq => ?gr5x0) ?kr5x0
            case gr5x0 => (have q0 := keepC hq c00; have q1 := keepC hq c01; have q2 := keepC hq c10; have q3 := keepC hq c11; have q4 := keepC hq c20; have q5 := keepC hq c21; refine Reg.gAt_val ?_; go_simp; first | done | (with_reducible rfl) | rfl)
            try simp only [Act.put, List.setIfInBounds_toArray, List.set_cons_zero, List.set_cons_succ]
            refine Reg.wpG_step (v := ?vr5x1) (fun wq hq => ?gr5x1) ?kr5x1
            case gr5x1 => (have q0 := keepC hq c00; have q1 := keepC hq c01; have q2 := keepC hq c10; have q3 := keepC hq c11; have q4 := keepC hq c20; have q5 := keepC hq c21; refine Reg.gAt_val ?_; go_simp; first | done | (with_reducible rfl) | rfl)
            try simp only [Act.put, List.setIfInBounds_toArray, List.set_cons_zero, List.set_cons_succ]
            refine Reg.wpG_step (v := ?vr5x2) (fun wq hq => ?gr5x2) ?kr5x2
            case gr5x2 => (have q0 := keepC hq c00; have q1 := keepC hq c01; have q2 := keepC hq c10; have q3 := keepC hq c11; have q4 := keepC hq c20; have q5 := keepC hq c21; refine Reg.gAt_val ?_; go_simp; first | done | (with_reducible rfl) | rfl)
            try simp only [Act.put, List.setIfInBounds_toArray, List.set_cons_zero, List.set_cons_succ]
            refine Reg.wpG_step (v := .agg #[.int .i64 ((bx - ax) % p), .int .i64 ((by_ - ay) % p)]) (fun wq hq => ?gr5x3) ?kr5x3
            case gr5x3 => (unfold Reg.gAt; go_simp; refine Reg.quiet_enter ?_; exact l01Minus_any _ _ _ _ _ _ (by omega) (by omega) (by omega) (by omega) (by omega) (by omega) (by omega) (by omega) (by omega) (by omega))
            try simp only [Act.put, List.setIfInBounds_toArray, List.set_cons_zero, List.set_cons_succ]
            refine Reg.wpG_step (v := ?vr5x4) (fun wq hq => ?gr5x4) ?kr5x4
            case gr5x4 => (have q0 := keepC hq c00; have q1 := keepC hq c01; have q2 := keepC hq c10; have q3 := keepC hq c11; have q4 := keepC hq c20; have q5 := keepC hq c21; refine Reg.gAt_val ?_; go_simp; first | done | (with_reducible rfl) | rfl)
            try simp only [Act.put, List.setIfInBounds_toArray, List.set_cons_zero, List.set_cons_succ]
            refine Reg.wpG_step (v := ?vr5x5) (fun wq hq => ?gr5x5) ?kr5x5
            case gr5x5 => (have q0 := keepC hq c00; have q1 := keepC hq c01; have q2 := keepC hq c10; have q3 := keepC hq c11; have q4 := keepC hq c20; have q5 := keepC hq c21; refine Reg.gAt_val ?_; go_simp; first | done | (with_reducible rfl) | rfl)
            try simp only [Act.put, List.setIfInBounds_toArray, List.set_cons_zero, List.set_cons_succ]
            refine Reg.wpG_step (v := ?vr5x6) (fun wq hq => ?gr5x6) ?kr5x6
            case gr5x6 => (have q0 := keepC hq c00; have q1 := keepC hq c01; have q2 := keepC hq c10; have q3 := keepC hq c11; have q4 := keepC hq c20; have q5 := keepC hq c21; refine Reg.gAt_val ?_; go_simp; first | done | (with_reducible rfl) | rfl)
            try simp only [Act.put, List.setIfInBounds_toArray, List.set_cons_zero, List.set_cons_succ]
            refine Reg.wpG_step (v := .agg #[.int .i64 ((cx - ax) % p), .int .i64 ((cy - ay) % p)]) (fun wq hq => ?gr5x7) ?kr5x7
            case gr5x7 => (unfold Reg.gAt; go_simp; refine Reg.quiet_enter ?_; exact l01Minus_any _ _ _ _ _ _ (by omega) (by omega) (by omega) (by omega) (by omega) (by omega) (by omega) (by omega) (by omega) (by omega))
            try simp only [Act.put, List.setIfInBounds_toArray, List.set_cons_zero, List.set_cons_succ]
            intro w2 g hB2 hg hd
            obtain ⟨hge8, hblk8⟩ := hg 8 (by omega) (by omega)
            obtain ⟨hge9, hblk9⟩ := hg 9 (by omega) (by omega)
            have hne89 : ¬ g 8 = g 9 := hd 8 9 (by omega) (by omega) (by omega) (by omega) (by omega)
            have hnf89 : ¬ g 9 = g 8 := fun e => hne89 e.symm
            clear hg hd
            simp only [List.range'_succ, List.range'_zero, Reg.putPtrs, Reg.dst, Act.put, List.setIfInBounds_toArray, List.set_cons_zero, List.set_cons_succ, List.getElem?_cons_zero, List.getElem?_cons_succ, Option.bind_some]
            generalize g 8 = g8 at *
            generalize g 9 = g9 at *
            obtain ⟨z80, z81, y80, y81⟩ := Reg.blk2 hblk8
            obtain ⟨z90, z91, y90, y91⟩ := Reg.blk2 hblk9
            clear hblk8 hblk9
            have hgw8 : w.heap.size ≤ g8 := Nat.le_trans hB.size hge8
            have hgw9 : w.heap.size ≤ g9 := Nat.le_trans hB.size hge9
            replace c00 := keepC hB2 c00
            replace c01 := keepC hB2 c01
            replace c10 := keepC hB2 c10
            replace c11 := keepC hB2 c11
            replace c20 := keepC hB2 c20
            replace c21 := keepC hB2 c21
            replace hB := below_of hB hB2 hB.size
            clear hB2 hge8 hge9
            go_wp2_with fail
            generalize hW3 : (World.setCell (World.setCell (World.setCell (World.setCell w2 ⟨g8, 0, none⟩ (.int .i64 ((bx - ax) % p))) ⟨g8, 1, none⟩ (.int .i64 ((by_ - ay) % p))) ⟨g9, 0, none⟩ (.int .i64 ((cx - ax) % p))) ⟨g9, 1, none⟩ (.int .i64 ((cy - ay) % p))) = W3
            have s8 : W3.cell? ⟨g8, 0, none⟩ = some (.int .i64 ((bx - ax) % p)) := by rw [← hW3]; simp [World.cell?_setCell_other, World.cell?_setCell_same, z80, z81, z90, z91, hne89, hnf89]
            have s9 : W3.cell? ⟨g9, 0, none⟩ = some (.int .i64 ((cx - ax) % p)) := by rw [← hW3]; simp [World.cell?_setCell_other, World.cell?_setCell_same, z80, z81, z90, z91, hne89, hnf89]
            replace hB : Below w.heap.size w W3 := by rw [← hW3]; go_grown
            clear hW3
            have hw1 : IntKind.i64.wrap ((cx - ax) % p * Pl.inv p ((bx - ax) % p)) = ((cx - ax) % p * Pl.inv p ((bx - ax) % p)) := IntWalk.i64_in _ (by omega)
            have ht1 : Int.tmod ((cx - ax) % p * Pl.inv p ((bx - ax) % p)) p = ((cx - ax) % p * Pl.inv p ((bx - ax) % p)) % p := Int.tmod_eq_emod_of_nonneg hm1
            have hp0 : ¬ p = 0 := by omega
            refine Reg.wp_region_grow (by kernel_rfl) 11 11 (fun _ => (#[.int .i64 0, .int .i64 0], 0)) (by kernel_rfl) ?_ ?_
            · intro k o h1 h2
              omega
            simp only [List.take_succ_cons, List.take_zero, List.drop_succ_cons, List.drop_zero]
            refine Reg.wpG_step (v := ?vr6x0) (fun wq hq => ?gr6x0) ?kr6x0
            case gr6x0 => (have q0 := keepC hq s8; have q1 := keepC hq s9; refine Reg.gAt_val ?_; go_simp; first | done | (with_reducible rfl) | rfl)
            try simp only [Act.put, List.setIfInBounds_toArray, List.set_cons_zero, List.set_cons_succ]
            refine Reg.wpG_step (v := ?vr6x1) (fun wq hq => ?gr6x1) ?kr6x1
            case gr6x1 => (have q0 := keepC hq s8; have q1 := keepC hq s9; refine Reg.gAt_val ?_; go_simp; first | done | (with_reducible rfl) | rfl)
            try simp only [Act.put, List.setIfInBounds_toArray, List.set_cons_zero, List.set_cons_succ]
            refine Reg.wpG_step (v := ?vr6x2) (fun wq hq => ?gr6x2) ?kr6x2
            case gr6x2 => (have q0 := keepC hq s8; have q1 := keepC hq s9; refine Reg.gAt_val ?_; go_simp; first | done | (with_reducible rfl) | rfl)
            try simp only [Act.put, List.setIfInBounds_toArray, List.set_cons_zero, List.set_cons_succ]
            refine Reg.wpG_step (v := ?vr6x3) (fun wq hq => ?gr6x3) ?kr6x3
            case gr6x3 => (have q0 := keepC hq s8; have q1 := keepC hq s9; refine Reg.gAt_val ?_; go_simp; first | done | (with_reducible rfl) | rfl)
            try simp only [Act.put, List.setIfInBounds_toArray, List.set_cons_zero, List.set_cons_succ]
            refine Reg.wpG_step (v := ?vr6x4) (fun wq hq => ?gr6x4) ?kr6x4
            case gr6x4 => (have q0 := keepC hq s8; have q1 := keepC hq s9; refine Reg.gAt_val ?_; go_simp; first | done | (with_reducible rfl) | rfl)
            try simp only [Act.put, List.setIfInBounds_toArray, List.set_cons_zero, List.set_cons_succ]
            refine Reg.wpG_step (v := .int .i64 (Pl.inv p ((bx - ax) % p))) (fun wq hq => ?gr6x5) ?kr6x5
            case gr6x5 => (unfold Reg.gAt; go_simp; refine Reg.quiet_enter ?_; exact (l01Inverse_any _ _ _ hf).mono fun e w5 ⟨he, hw⟩ => ⟨he.trans (ret_int (by rw [Int.emod_emod])), hw ▸ Below.refl _ _⟩)
            try simp only [Act.put, List.setIfInBounds_toArray, List.set_cons_zero, List.set_cons_succ]
            refine Reg.wpG_step (v := ?vr6x6) (fun wq hq => ?gr6x6) ?kr6x6
            case gr6x6 => (have q0 := keepC hq s8; have q1 := keepC hq s9; refine Reg.gAt_val ?_; go_simp; first | done | (with_reducible rfl) | rfl)
            try simp only [Act.put, List.setIfInBounds_toArray, List.set_cons_zero, List.set_cons_succ]
            refine Reg.wpG_step (v := ?vr6x7) (fun wq hq => ?gr6x7) ?kr6x7
            case gr6x7 => (have q0 := keepC hq s8; have q1 := keepC hq s9; refine Reg.gAt_val ?_; go_simp; first | done | (with_reducible rfl) | rfl)
            try simp only [Act.put, List.setIfInBounds_toArray, List.set_cons_zero, List.set_cons_succ]
            refine Reg.wpG_step (v := ?vr6x8) (fun wq hq => ?gr6x8) ?kr6x8
            case gr6x8 => (have q0 := keepC hq s8; have q1 := keepC hq s9; refine Reg.gAt_val ?_; go_simp; first | done | (with_reducible rfl) | rfl)
            try simp only [Act.put, List.setIfInBounds_toArray, List.set_cons_zero, List.set_cons_succ]
            refine Reg.wpG_step (v := ?vr6x9) (fun wq hq => ?gr6x9) ?kr6x9
            case gr6x9 => (have q0 := keepC hq s8; have q1 := keepC hq s9; refine Reg.gAt_val ?_; go_simp; first | done | (with_reducible rfl) | rfl)
            try simp only [Act.put, List.setIfInBounds_toArray, List.set_cons_zero, List.set_cons_succ]
            refine Reg.wpG_step (v := ?vr6x10) (fun wq hq => ?gr6x10) ?kr6x10
            case gr6x10 => (have q0 := keepC hq s8; have q1 := keepC hq s9; refine Reg.gAt_val ?_; go_simp; first | done | (with_reducible rfl) | rfl)
            try simp only [Act.put, List.setIfInBounds_toArray, List.set_cons_zero, List.set_cons_succ]
            intro w2 g hB2 hg hd
            clear hg hd
            change wpList _ _ _ _ (Reg.putPtrs _ g [] _) _
            simp only [Reg.putPtrs]
            replace s8 := keepC hB2 s8
            replace s9 := keepC hB2 s9
            replace hB := below_of hB hB2 hB.size
            clear hB2 
            go_wp2_with fail
            go_ret2
            exact ⟨ret_ii (by rw [hfin.out, if_neg hcs.out, if_neg (by rw [hR.out]; omega), hR.out]) (by rw [hfin.out, if_neg hcs.out, if_neg (by rw [hR.out]; omega)]), hB⟩
        · have fa : (Pl.area p ax ay bx by_ cx cy != 0) = true := by simpa using har
          have hR := hid (show Pl.rat p ax ay bx by_ cx cy = -1 by rw [hrat.out, if_neg har])
          clear har hrat
          go_wp2_with (go_at_call 54; refine (l01Area_any _ _ _ _ _ _ _ _ (by omega) (by omega) (by omega) (by omega) (by omega) (by omega) (by omega) (by omega) (by omega) (by omega) (by omega) (by omega) (by omega) (by omega)).mono ?_; rintro e w' ⟨rfl, hbn⟩; replace c00 := keepC hbn (by first | exact c00 | exact keepA _ c00 | exact keepA _ (keepA _ c00)); replace c01 := keepC hbn (by first | exact c01 | exact keepA _ c01 | exact keepA _ (keepA _ c01)); replace c10 := keepC hbn (by first | exact c10 | exact keepA _ c10 | exact keepA _ (keepA _ c10)); replace c11 := keepC hbn (by first | exact c11 | exact keepA _ c11 | exact keepA _ (keepA _ c11)); replace c20 := keepC hbn (by first | exact c20 | exact keepA _ c20 | exact keepA _ (keepA _ c20)); replace c21 := keepC hbn (by first | exact c21 | exact keepA _ c21 | exact keepA _ (keepA _ c21)); replace hB := below_of (B := w.heap.size) (a := w) (by first | exact hB | (have := hB.size; go_grown)) hbn (by first | exact hB.size | (have := hB.size; simp <;> omega)); clear hbn)
          go_ret2
          exact ⟨ret_ii (by rw [hfin.out, if_neg hcs.out, if_pos hR.out]) (by rw [hfin.out, if_neg hcs.out, if_pos hR.out]), hB⟩
  · have hne : (Pl.ask p (Pl.ptsB p [(ax, ay), (bx, by_), (cx, cy)]) != 0) = true := by simpa using h0
    have hfin : Hid (Pl.ratOf p ax ay bx by_ cx cy = (0, Pl.ask p (Pl.ptsB p [(ax, ay), (bx, by_), (cx, cy)]))) := by unfold Hid Pl.ratOf; rw [if_neg h0]
    clear h0
    go_enter Tryz.func16, Tryz.ntmps16
    go_wp2_with fail
    refine (l01Code_any p _ 0 3 3 [(ax, ay), (bx, by_), (cx, cy)] rfl (by omega) _ (by simp) ?_).mono ?_
    · intro j hj
      match j, hj with
      | 0, _ => exact ⟨by go_simp, by go_simp⟩
      | 1, _ => exact ⟨by go_simp, by go_simp⟩
      | 2, _ => exact ⟨by go_simp, by go_simp⟩
    · rintro e w1 ⟨rfl, hb⟩
      have hB : Below w.heap.size w w1 := below_of (by go_grown) hb (by simp <;> omega)
      clear hb
      go_wp2_with fail
      go_ret2
      exact ⟨ret_ii (by rw [hfin.out]) (by rw [hfin.out]), hB⟩
end Go.Proofs.YtbjcbbnfgfmllaaGreatDoor
