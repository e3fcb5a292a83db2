/- Contracts: lines through two points: both sides. -/
import Derived.Test.YtbjcbbnfgfmllaaGreatH2
import Derived.Test.YtbjcbbnfgfmllaaGreatPlA
import Derived.Test.YtbjcbbnfgfmllaaGreatK
import Derived.Test.YtbjcbbnfgfmllaaGreatAgg
set_option linter.unusedVariables false
set_option linter.unusedSimpArgs false
set_option maxHeartbeats 1000000
set_option maxRecDepth 100000
namespace Go.Proofs.YtbjcbbnfgfmllaaGreat
open Go.RowKit
theorem through_any (p ax ay wx wy : Int) (w : World) (hf : Pl.fieldB p = true) (ax1 : 0 ≤ ax) (ax2 : ax ≤ 31) (ay1 : 0 ≤ ay) (ay2 : ay ≤ 31) (wx1 : 0 ≤ wx) (wx2 : wx ≤ 31) (wy1 : 0 ≤ wy) (wy2 : wy ≤ 31) :
    Calls Tryz.prog 91 #[.int .i64 p, .agg #[.int .i64 ax, .int .i64 ay], .agg #[.int .i64 wx, .int .i64 wy]] w fun e w' => e = .returned (.agg #[.int .i64 (Pl.nrm p wy (-wx) wy), .int .i64 (Pl.nrm p wy (-wx) (-wx)), .int .i64 (Pl.nrm p wy (-wx) (-(wy * ax + -wx * ay)))]) ∧ Below w.heap.size w w' := by
  have hp := Pl.field_bd hf
  obtain ⟨hp1, hp2⟩ := hp
  have h1 := Pl.mulB (show 0 ≤ wy by omega) (show wy ≤ 31 by omega) (show 0 ≤ ax by omega) (show ax ≤ 31 by omega)
  obtain ⟨h1a, h1b⟩ := h1
  have h2 := Pl.mulA (show -31 ≤ -wx by omega) (show -wx ≤ 31 by omega) (show -31 ≤ ay by omega) (show ay ≤ 31 by omega)
  obtain ⟨h2a, h2b⟩ := h2
  have e0 : IntKind.i64.wrap (-wx) = -wx := IntWalk.i64_in _ (by omega)
  have e1 : IntKind.i64.wrap (wy * ax) = wy * ax := IntWalk.i64_in _ (by omega)
  have e2 : IntKind.i64.wrap (-wx * ay) = -wx * ay := IntWalk.i64_in _ (by omega)
  have e3 : IntKind.i64.wrap (wy * ax + -wx * ay) = wy * ax + -wx * ay := IntWalk.i64_in _ (by omega)
  have e4 : IntKind.i64.wrap (-(wy * ax + -wx * ay)) = -(wy * ax + -wx * ay) := IntWalk.i64_in _ (by omega)
  go_enter Tryz.func91, Tryz.ntmps91
  go_wp2_with fail
  generalize hW : (World.alloc (World.alloc (World.alloc w (.cells #[.int .i64 ax, .int .i64 ay] 25)) (.cells #[.int .i64 wx, .int .i64 wy] 25)) (.cells #[.int .i64 0, .int .i64 0, .int .i64 0] 29)) = W
  have d00 : W.cell? ⟨w.heap.size, 0, none⟩ = some (.int .i64 ax) := by subst hW; go_simp
  have d01 : W.cell? ⟨w.heap.size, 1, none⟩ = some (.int .i64 ay) := by subst hW; go_simp
  have d10 : W.cell? ⟨w.heap.size + 1, 0, none⟩ = some (.int .i64 wx) := by subst hW; go_simp
  have d11 : W.cell? ⟨w.heap.size + 1, 1, none⟩ = some (.int .i64 wy) := by subst hW; go_simp
  have z0 : W.cell? ⟨w.heap.size + 1 + 1, 0, none⟩ = some (.int .i64 0) := by subst hW; go_simp
  have y0 : W.frozen? ⟨w.heap.size + 1 + 1, 0, none⟩ = false := by subst hW; go_simp
  have z1 : W.cell? ⟨w.heap.size + 1 + 1, 1, none⟩ = some (.int .i64 0) := by subst hW; go_simp
  have y1 : W.frozen? ⟨w.heap.size + 1 + 1, 1, none⟩ = false := by subst hW; go_simp
  have z2 : W.cell? ⟨w.heap.size + 1 + 1, 2, none⟩ = some (.int .i64 0) := by subst hW; go_simp
  have y2 : W.frozen? ⟨w.heap.size + 1 + 1, 2, none⟩ = false := by subst hW; go_simp
  have hgw0 : w.heap.size ≤ w.heap.size + 1 + 1 := by omega
  have hB : Below w.heap.size w W := by subst hW; go_grown
  clear hW
  generalize hgr : w.heap.size + 1 + 1 = r at *
  clear hgr
  go_region
  go_wp2_with (go_at_call 64; refine (makeLine_any _ _ _ _ _ hf (by omega) (by omega) (by omega) (by omega) (by omega) (by omega)).mono ?_; rintro e w' ⟨rfl, hbn⟩; replace y0 := keepF hbn z0 y0; replace y1 := keepF hbn z1 y1; replace y2 := keepF hbn z2 y2; replace z0 := keepC hbn z0; replace z1 := keepC hbn z1; replace z2 := keepC hbn z2; replace hB := below_of (B := w.heap.size) (a := w) (by first | exact hB | (have := hB.size; go_grown)) hbn (by first | exact hB.size | (have := hB.size; simp <;> omega)); clear hbn)
  try simp only [Exit.inBlock, Exit.then]
  refine bodyPost_ret (by simp [results, Tryz.results91, go_sem, y0, y1, y2, z0, z1, z2]; try rfl) rfl ?_
  exact ⟨rfl, by first | exact hB | go_grown⟩
theorem lineThrough_any (p ax ay bx by_ : Int) (w : World) (hf : Pl.fieldB p = true) (ax1 : 0 ≤ ax) (ax2 : ax ≤ 31) (ay1 : 0 ≤ ay) (ay2 : ay ≤ 31) (bx1 : 0 ≤ bx) (bx2 : bx ≤ 31) (by_1 : 0 ≤ by_) (by_2 : by_ ≤ 31) :
    Calls Tryz.prog 42 #[.int .i64 p, .agg #[.int .i64 ax, .int .i64 ay], .agg #[.int .i64 bx, .int .i64 by_]] w fun e w' => e = .returned (.agg #[.int .i64 (Pl.thA p ax ay bx by_), .int .i64 (Pl.thB p ax ay bx by_), .int .i64 (Pl.thC p ax ay bx by_)]) ∧ Below w.heap.size w w' := by
  have hp := Pl.field_bd hf
  obtain ⟨hp1, hp2⟩ := hp
  have r1n := Int.emod_nonneg (bx - ax) (show p ≠ 0 by omega)
  have r1l := Int.emod_lt_of_pos (bx - ax) (show 0 < p by omega)
  have r2n := Int.emod_nonneg (by_ - ay) (show p ≠ 0 by omega)
  have r2l := Int.emod_lt_of_pos (by_ - ay) (show 0 < p by omega)
  go_enter Tryz.func42, Tryz.ntmps42
  go_wp2_with fail
  generalize hW : (World.alloc (World.alloc (World.alloc w (.cells #[.int .i64 ax, .int .i64 ay] 25)) (.cells #[.int .i64 bx, .int .i64 by_] 25)) (.cells #[.int .i64 0, .int .i64 0, .int .i64 0] 29)) = W
  have d00 : W.cell? ⟨w.heap.size, 0, none⟩ = some (.int .i64 ax) := by subst hW; go_simp
  have d01 : W.cell? ⟨w.heap.size, 1, none⟩ = some (.int .i64 ay) := by subst hW; go_simp
  have d10 : W.cell? ⟨w.heap.size + 1, 0, none⟩ = some (.int .i64 bx) := by subst hW; go_simp
  have d11 : W.cell? ⟨w.heap.size + 1, 1, none⟩ = some (.int .i64 by_) := by subst hW; go_simp
  have z0 : W.cell? ⟨w.heap.size + 1 + 1, 0, none⟩ = some (.int .i64 0) := by subst hW; go_simp
  have y0 : W.frozen? ⟨w.heap.size + 1 + 1, 0, none⟩ = false := by subst hW; go_simp
  have z1 : W.cell? ⟨w.heap.size + 1 + 1, 1, none⟩ = some (.int .i64 0) := by subst hW; go_simp
  have y1 : W.frozen? ⟨w.heap.size + 1 + 1, 1, none⟩ = false := by subst hW; go_simp
  have z2 : W.cell? ⟨w.heap.size + 1 + 1, 2, none⟩ = some (.int .i64 0) := by subst hW; go_simp
  have y2 : W.frozen? ⟨w.heap.size + 1 + 1, 2, none⟩ = false := by subst hW; go_simp
  have hgw0 : w.heap.size ≤ w.heap.size + 1 + 1 := by omega
  have hB : Below w.heap.size w W := by subst hW; go_grown
  clear hW
  generalize hgr : w.heap.size + 1 + 1 = r at *
  clear hgr
  refine Reg.wp_region_grow (by kernel_rfl) 7 7 (fun _ => (#[.int .i64 0, .int .i64 0], 0)) (by kernel_rfl) ?_ ?_
  · intro k o h1 h2
    omega
  simp only [List.take_succ_cons, List.take_zero, List.drop_succ_cons, List.drop_zero]
  refine Reg.wpG_step (v := ?vr1x0) (fun wq hq => ?gr1x0) ?kr1x0
  case gr1x0 => (have q0 := keepC hq d00; have q1 := keepC hq d01; have q2 := keepC hq d10; have q3 := keepC hq d11; have q7 := keepC hq z0; have q8 := keepC hq z1; have q9 := keepC hq z2; refine Reg.gAt_val ?_; go_simp; first | done | (with_reducible rfl) | rfl)
  try simp only [Act.put, List.setIfInBounds_toArray, List.set_cons_zero, List.set_cons_succ]
  refine Reg.wpG_step (v := ?vr1x1) (fun wq hq => ?gr1x1) ?kr1x1
  case gr1x1 => (have q0 := keepC hq d00; have q1 := keepC hq d01; have q2 := keepC hq d10; have q3 := keepC hq d11; have q7 := keepC hq z0; have q8 := keepC hq z1; have q9 := keepC hq z2; refine Reg.gAt_val ?_; go_simp; first | done | (with_reducible rfl) | rfl)
  try simp only [Act.put, List.setIfInBounds_toArray, List.set_cons_zero, List.set_cons_succ]
  refine Reg.wpG_step (v := ?vr1x2) (fun wq hq => ?gr1x2) ?kr1x2
  case gr1x2 => (have q0 := keepC hq d00; have q1 := keepC hq d01; have q2 := keepC hq d10; have q3 := keepC hq d11; have q7 := keepC hq z0; have q8 := keepC hq z1; have q9 := keepC hq z2; refine Reg.gAt_val ?_; go_simp; first | done | (with_reducible rfl) | rfl)
  try simp only [Act.put, List.setIfInBounds_toArray, List.set_cons_zero, List.set_cons_succ]
  refine Reg.wpG_step (v := ?vr1x3) (fun wq hq => ?gr1x3) ?kr1x3
  case gr1x3 => (have q0 := keepC hq d00; have q1 := keepC hq d01; have q2 := keepC hq d10; have q3 := keepC hq d11; have q7 := keepC hq z0; have q8 := keepC hq z1; have q9 := keepC hq z2; refine Reg.gAt_val ?_; go_simp; first | done | (with_reducible rfl) | rfl)
  try simp only [Act.put, List.setIfInBounds_toArray, List.set_cons_zero, List.set_cons_succ]
  refine Reg.wpG_step (v := ?vr1x4) (fun wq hq => ?gr1x4) ?kr1x4
  case gr1x4 => (have q0 := keepC hq d00; have q1 := keepC hq d01; have q2 := keepC hq d10; have q3 := keepC hq d11; have q7 := keepC hq z0; have q8 := keepC hq z1; have q9 := keepC hq z2; refine Reg.gAt_val ?_; go_simp; first | done | (with_reducible rfl) | rfl)
  try simp only [Act.put, List.setIfInBounds_toArray, List.set_cons_zero, List.set_cons_succ]
  refine Reg.wpG_step (v := .agg #[.int .i64 ((bx - ax) % p), .int .i64 ((by_ - ay) % p)]) (fun wq hq => ?gr1x5) ?kr1x5
  case gr1x5 => (unfold Reg.gAt; go_simp; refine Reg.quiet_enter ?_; exact less_any _ _ _ _ _ _ (by omega) (by omega) (by omega) (by omega) (by omega) (by omega) (by omega) (by omega) (by omega) (by omega))
  try simp only [Act.put, List.setIfInBounds_toArray, List.set_cons_zero, List.set_cons_succ]
  refine Reg.wpG_step (v := .agg #[.int .i64 (Pl.thA p ax ay bx by_), .int .i64 (Pl.thB p ax ay bx by_), .int .i64 (Pl.thC p ax ay bx by_)]) (fun wq hq => ?gr1x6) ?kr1x6
  case gr1x6 => (unfold Reg.gAt; go_simp; refine Reg.quiet_enter ?_; exact through_any _ _ _ _ _ _ hf (by omega) (by omega) (by omega) (by omega) (by omega) (by omega) (by omega) (by omega))
  try simp only [Act.put, List.setIfInBounds_toArray, List.set_cons_zero, List.set_cons_succ]
  intro w2 g hB2 hg hd
  clear hg hd
  change wpList _ _ _ _ (Reg.putPtrs _ g [] _) _
  simp only [Reg.putPtrs]
  replace d00 := keepC hB2 d00
  replace d01 := keepC hB2 d01
  replace d10 := keepC hB2 d10
  replace d11 := keepC hB2 d11
  replace y0 := keepF hB2 z0 y0
  replace y1 := keepF hB2 z1 y1
  replace y2 := keepF hB2 z2 y2
  replace z0 := keepC hB2 z0
  replace z1 := keepC hB2 z1
  replace z2 := keepC hB2 z2
  replace hB := below_of hB hB2 hB.size
  clear hB2 
  go_wp2_with fail
  try simp only [Exit.inBlock, Exit.then]
  refine bodyPost_ret (by simp [results, Tryz.results42, go_sem, y0, y1, y2, z0, z1, z2]; try rfl) rfl ?_
  exact ⟨rfl, by go_grown⟩
theorem l01Through_any (p ax ay bx by_ : Int) (w : World) (hf : Pl.fieldB p = true) (ax1 : 0 ≤ ax) (ax2 : ax ≤ 31) (ay1 : 0 ≤ ay) (ay2 : ay ≤ 31) (bx1 : 0 ≤ bx) (bx2 : bx ≤ 31) (by_1 : 0 ≤ by_) (by_2 : by_ ≤ 31) :
    Calls Tryz.prog 44 #[.int .i64 p, .agg #[.int .i64 ax, .int .i64 ay], .agg #[.int .i64 bx, .int .i64 by_]] w fun e w' => e = .returned (.agg #[.int .i64 (Pl.nrm p (ay - by_) (bx - ax) (ay - by_)), .int .i64 (Pl.nrm p (ay - by_) (bx - ax) (bx - ax)), .int .i64 (Pl.nrm p (ay - by_) (bx - ax) (ax * by_ - bx * ay))]) ∧ Below w.heap.size w w' := by
  have hp := Pl.field_bd hf
  obtain ⟨hp1, hp2⟩ := hp
  have h1 := Pl.mulB (show 0 ≤ ax by omega) (show ax ≤ 31 by omega) (show 0 ≤ by_ by omega) (show by_ ≤ 31 by omega)
  obtain ⟨h1a, h1b⟩ := h1
  have h2 := Pl.mulB (show 0 ≤ bx by omega) (show bx ≤ 31 by omega) (show 0 ≤ ay by omega) (show ay ≤ 31 by omega)
  obtain ⟨h2a, h2b⟩ := h2
  have e0 : IntKind.i64.wrap (ay - by_) = ay - by_ := IntWalk.i64_in _ (by omega)
  have e1 : IntKind.i64.wrap (bx - ax) = bx - ax := IntWalk.i64_in _ (by omega)
  have e2 : IntKind.i64.wrap (ax * by_) = ax * by_ := IntWalk.i64_in _ (by omega)
  have e3 : IntKind.i64.wrap (bx * ay) = bx * ay := IntWalk.i64_in _ (by omega)
  have e4 : IntKind.i64.wrap (ax * by_ - bx * ay) = ax * by_ - bx * ay := IntWalk.i64_in _ (by omega)
  go_enter Tryz.func44, Tryz.ntmps44
  go_wp2_with fail
  generalize hW : (World.alloc (World.alloc (World.alloc w (.cells #[.int .i64 ax, .int .i64 ay] 25)) (.cells #[.int .i64 bx, .int .i64 by_] 25)) (.cells #[.int .i64 0, .int .i64 0, .int .i64 0] 29)) = W
  have d00 : W.cell? ⟨w.heap.size, 0, none⟩ = some (.int .i64 ax) := by subst hW; go_simp
  have d01 : W.cell? ⟨w.heap.size, 1, none⟩ = some (.int .i64 ay) := by subst hW; go_simp
  have d10 : W.cell? ⟨w.heap.size + 1, 0, none⟩ = some (.int .i64 bx) := by subst hW; go_simp
  have d11 : W.cell? ⟨w.heap.size + 1, 1, none⟩ = some (.int .i64 by_) := by subst hW; go_simp
  have z0 : W.cell? ⟨w.heap.size + 1 + 1, 0, none⟩ = some (.int .i64 0) := by subst hW; go_simp
  have y0 : W.frozen? ⟨w.heap.size + 1 + 1, 0, none⟩ = false := by subst hW; go_simp
  have z1 : W.cell? ⟨w.heap.size + 1 + 1, 1, none⟩ = some (.int .i64 0) := by subst hW; go_simp
  have y1 : W.frozen? ⟨w.heap.size + 1 + 1, 1, none⟩ = false := by subst hW; go_simp
  have z2 : W.cell? ⟨w.heap.size + 1 + 1, 2, none⟩ = some (.int .i64 0) := by subst hW; go_simp
  have y2 : W.frozen? ⟨w.heap.size + 1 + 1, 2, none⟩ = false := by subst hW; go_simp
  have hgw0 : w.heap.size ≤ w.heap.size + 1 + 1 := by omega
  have hB : Below w.heap.size w W := by subst hW; go_grown
  clear hW
  generalize hgr : w.heap.size + 1 + 1 = r at *
  clear hgr
  go_wp2_with (go_at_call 75; refine (l01Normal_any _ _ _ _ _ hf (by omega) (by omega) (by omega) (by omega) (by omega) (by omega)).mono ?_; rintro e w' ⟨rfl, hbn⟩; replace y0 := keepF hbn z0 y0; replace y1 := keepF hbn z1 y1; replace y2 := keepF hbn z2 y2; replace z0 := keepC hbn z0; replace z1 := keepC hbn z1; replace z2 := keepC hbn z2; replace hB := below_of (B := w.heap.size) (a := w) (by first | exact hB | (have := hB.size; go_grown)) hbn (by first | exact hB.size | (have := hB.size; simp <;> omega)); clear hbn)
  try simp only [Exit.inBlock, Exit.then]
  refine bodyPost_ret (by simp [results, Tryz.results44, go_sem, y0, y1, y2, z0, z1, z2]; try rfl) rfl ?_
  exact ⟨rfl, by first | exact hB | go_grown⟩
theorem LineThrough1_any (p ax ay bx by_ : Int) (b0 b1 b2 : Nat) (w : World) (c00 : w.cell? ⟨b0, 0, none⟩ = some (.int .i64 p)) (c10 : w.cell? ⟨b1, 0, none⟩ = some (.int .i64 ax)) (c11 : w.cell? ⟨b1, 1, none⟩ = some (.int .i64 ay)) (c20 : w.cell? ⟨b2, 0, none⟩ = some (.int .i64 bx)) (c21 : w.cell? ⟨b2, 1, none⟩ = some (.int .i64 by_)) :
    Calls Tryz.prog 40 #[.pointer (some ⟨b0, 0, none⟩), .pointer (some ⟨b1, 0, none⟩), .pointer (some ⟨b2, 0, none⟩)] w fun e w' => e = .returned (.bool (Pl.ptsB p [(ax, ay), (bx, by_)])) ∧ Below w.heap.size w w' := by
  go_enter Tryz.func40, Tryz.ntmps40
  go_wp2_with fail
  refine (arePoints_any p _ 0 2 2 [(ax, ay), (bx, by_)] rfl (by omega) _ (by simp) ?_).mono ?_
  · intro j hj
    match j, hj with
    | 0, _ => exact ⟨by go_simp, by go_simp⟩
    | 1, _ => exact ⟨by go_simp, by go_simp⟩
  · rintro e w' ⟨rfl, hb⟩
    go_wp2_with fail
    go_ret
    exact ⟨rfl, below_of (by go_grown) hb (by simp <;> omega)⟩
theorem LineThrough_any (p ax ay bx by_ : Int) (w : World) :
    Calls Tryz.prog 6 #[.int .i64 p, .agg #[.int .i64 ax, .int .i64 ay], .agg #[.int .i64 bx, .int .i64 by_]] w fun e w' => e = .returned (.tuple #[.agg #[.int .i64 ((Pl.ltOf p ax ay bx by_).1.1), .int .i64 ((Pl.ltOf p ax ay bx by_).1.2.1), .int .i64 ((Pl.ltOf p ax ay bx by_).1.2.2)], .int .i64 ((Pl.ltOf p ax ay bx by_).2)]) ∧ Below w.heap.size w w' := by
  by_cases h0 : Pl.ask p (Pl.ptsB p [(ax, ay), (bx, by_)]) = 0
  · have hfin : Hid (Pl.ltOf p ax ay bx by_ = (if ax = bx ∧ ay = by_ then ((0, 0, 0), 5) else ((Pl.thA p ax ay bx by_, Pl.thB p ax ay bx by_, Pl.thC p ax ay bx by_), 0))) := by unfold Hid Pl.ltOf; rw [if_pos h0]
    have hv : Hid (Pl.fieldB p = true ∧ (Pl.ptsB p [(ax, ay), (bx, by_)]) = true) := Pl.ask_ok h0
    have hp := Pl.field_bd hv.out.1
    obtain ⟨hp1, hp2⟩ := hp
    obtain ⟨⟨ax1, ax2, ay1, ay2⟩, bx1, bx2, by_1, by_2⟩ := Pl.pts2_bd hv.out.2
    have hf := hv.out.1
    go_enter Tryz.func6, Tryz.ntmps6
    go_wp2_with fail
    refine (asked_any p _ _ (Pl.ptsB p [(ax, ay), (bx, by_)]) _ (by kernel_rfl) ?_).mono ?_
    · intro _
      exact LineThrough1_any p ax ay bx by_ _ _ _ _ (by go_simp) (by go_simp) (by go_simp) (by go_simp) (by go_simp)
    · rintro e w1 ⟨rfl, hb⟩
      have c00 : w1.cell? ⟨w.heap.size, 0, none⟩ = some (.int .i64 p) := cellOf hb (by go_simp) (by simp <;> omega)
      have c10 : w1.cell? ⟨w.heap.size + 1, 0, none⟩ = some (.int .i64 ax) := cellOf hb (by go_simp) (by simp <;> omega)
      have c11 : w1.cell? ⟨w.heap.size + 1, 1, none⟩ = some (.int .i64 ay) := cellOf hb (by go_simp) (by simp <;> omega)
      have c20 : w1.cell? ⟨w.heap.size + 2, 0, none⟩ = some (.int .i64 bx) := cellOf hb (by go_simp) (by simp <;> omega)
      have c21 : w1.cell? ⟨w.heap.size + 2, 1, none⟩ = some (.int .i64 by_) := cellOf hb (by go_simp) (by simp <;> omega)
      have z0 : w1.cell? ⟨w.heap.size + 1 + 1 + 1, 0, none⟩ = some (.int .i64 0) := cellOf hb (by go_simp) (by simp <;> omega)
      have y0 : w1.frozen? ⟨w.heap.size + 1 + 1 + 1, 0, none⟩ = false := frozenOf hb (by go_simp) (by simp <;> omega)
      have z1 : w1.cell? ⟨w.heap.size + 1 + 1 + 1, 1, none⟩ = some (.int .i64 0) := cellOf hb (by go_simp) (by simp <;> omega)
      have y1 : w1.frozen? ⟨w.heap.size + 1 + 1 + 1, 1, none⟩ = false := frozenOf hb (by go_simp) (by simp <;> omega)
      have z2 : w1.cell? ⟨w.heap.size + 1 + 1 + 1, 2, none⟩ = some (.int .i64 0) := cellOf hb (by go_simp) (by simp <;> omega)
      have y2 : w1.frozen? ⟨w.heap.size + 1 + 1 + 1, 2, none⟩ = false := frozenOf hb (by go_simp) (by simp <;> omega)
      have hz : w.heap.size + 3 ≤ w1.heap.size := by have := hb.size; simp at this; omega
      have hB : Below w.heap.size w w1 := below_of (by go_grown) hb (by simp <;> omega)
      clear hb
      by_cases heq : ax = bx ∧ ay = by_
      · have hq : ∀ w', (Op.equalIn 10000 25 (.agg #[.int .i64 ax, .int .i64 ay]) (.agg #[.int .i64 bx, .int .i64 by_])).run Tryz.prog w' = .ok (true) w' := fun w' => by rw [eqPt_small w' (by omega) (by omega) (by omega) (by omega) (by omega) (by omega) (by omega) (by omega), show (ax == bx && ay == by_) = true by simp [heq.1, heq.2]]
        have hcs := hid heq
        clear heq
        go_wp2_with fail
        try simp only [Exit.inBlock, Exit.then]
        refine bodyPost_ret (by simp [results, Tryz.results6, go_sem, y0, y1, y2, z0, z1, z2]; try rfl) rfl ?_
        exact ⟨ret_li (by rw [hfin.out, if_pos hcs.out]) (by rw [hfin.out, if_pos hcs.out]) (by rw [hfin.out, if_pos hcs.out]) (by rw [hfin.out, if_pos hcs.out]), by first | exact hB | go_grown⟩
      · have hq : ∀ w', (Op.equalIn 10000 25 (.agg #[.int .i64 ax, .int .i64 ay]) (.agg #[.int .i64 bx, .int .i64 by_])).run Tryz.prog w' = .ok (false) w' := fun w' => by rw [eqPt_small w' (by omega) (by omega) (by omega) (by omega) (by omega) (by omega) (by omega) (by omega), show (ax == bx && ay == by_) = false by simpa using heq]
        have hcs := hid heq
        clear heq
        go_wp2_with (go_at_call 42; refine (lineThrough_any _ _ _ _ _ _ hf (by omega) (by omega) (by omega) (by omega) (by omega) (by omega) (by omega) (by omega)).mono ?_; rintro e w' ⟨rfl, hbn⟩; replace y0 := keepF hbn z0 y0; replace y1 := keepF hbn z1 y1; replace y2 := keepF hbn z2 y2; replace z0 := keepC hbn z0; replace z1 := keepC hbn z1; replace z2 := keepC hbn z2; replace hB := below_of (B := w.heap.size) (a := w) (by first | exact hB | (have := hB.size; go_grown)) hbn (by first | exact hB.size | (have := hB.size; simp <;> omega)); clear hbn)
        try simp only [Exit.inBlock, Exit.then]
        refine bodyPost_ret (by simp [results, Tryz.results6, go_sem, y0, y1, y2, z0, z1, z2]; try rfl) rfl ?_
        exact ⟨ret_li (by rw [hfin.out, if_neg hcs.out]) (by rw [hfin.out, if_neg hcs.out]) (by rw [hfin.out, if_neg hcs.out]) (by rw [hfin.out, if_neg hcs.out]), by first | exact hB | go_grown⟩
  · have hne : (Pl.ask p (Pl.ptsB p [(ax, ay), (bx, by_)]) != 0) = true := by simpa using h0
    have hfin : Hid (Pl.ltOf p ax ay bx by_ = ((0, 0, 0), Pl.ask p (Pl.ptsB p [(ax, ay), (bx, by_)]))) := by unfold Hid Pl.ltOf; rw [if_neg h0]
    clear h0
    go_enter Tryz.func6, Tryz.ntmps6
    go_wp2_with fail
    refine (asked_any p _ _ (Pl.ptsB p [(ax, ay), (bx, by_)]) _ (by kernel_rfl) ?_).mono ?_
    · intro _
      exact LineThrough1_any p ax ay bx by_ _ _ _ _ (by go_simp) (by go_simp) (by go_simp) (by go_simp) (by go_simp)
    · rintro e w1 ⟨rfl, hb⟩
      have z0 : w1.cell? ⟨w.heap.size + 1 + 1 + 1, 0, none⟩ = some (.int .i64 0) := cellOf hb (by go_simp) (by simp <;> omega)
      have y0 : w1.frozen? ⟨w.heap.size + 1 + 1 + 1, 0, none⟩ = false := frozenOf hb (by go_simp) (by simp <;> omega)
      have z1 : w1.cell? ⟨w.heap.size + 1 + 1 + 1, 1, none⟩ = some (.int .i64 0) := cellOf hb (by go_simp) (by simp <;> omega)
      have y1 : w1.frozen? ⟨w.heap.size + 1 + 1 + 1, 1, none⟩ = false := frozenOf hb (by go_simp) (by simp <;> omega)
      have z2 : w1.cell? ⟨w.heap.size + 1 + 1 + 1, 2, none⟩ = some (.int .i64 0) := cellOf hb (by go_simp) (by simp <;> omega)
      have y2 : w1.frozen? ⟨w.heap.size + 1 + 1 + 1, 2, none⟩ = false := frozenOf hb (by go_simp) (by simp <;> omega)
      have hB : Below w.heap.size w w1 := below_of (by go_grown) hb (by simp <;> omega)
      clear hb
      go_wp2_with fail
      try simp only [Exit.inBlock, Exit.then]
      refine bodyPost_ret (by simp [results, Tryz.results6, go_sem, y0, y1, y2, z0, z1, z2]; try rfl) rfl ?_
      exact ⟨ret_li (by rw [hfin.out]) (by rw [hfin.out]) (by rw [hfin.out]) (by rw [hfin.out]), by go_grown⟩
theorem sLineThrough_any (p ax ay bx by_ : Int) (w : World) :
    Calls Tryz.prog 7 #[.int .i64 p, .agg #[.int .i64 ax, .int .i64 ay], .agg #[.int .i64 bx, .int .i64 by_]] w fun e w' => e = .returned (.tuple #[.agg #[.int .i64 ((Pl.ltOf p ax ay bx by_).1.1), .int .i64 ((Pl.ltOf p ax ay bx by_).1.2.1), .int .i64 ((Pl.ltOf p ax ay bx by_).1.2.2)], .int .i64 ((Pl.ltOf p ax ay bx by_).2)]) ∧ Below w.heap.size w w' := by
  by_cases h0 : Pl.ask p (Pl.ptsB p [(ax, ay), (bx, by_)]) = 0
  · have hfin : Hid (Pl.ltOf p ax ay bx by_ = (if ax = bx ∧ ay = by_ then ((0, 0, 0), 5) else ((Pl.thA p ax ay bx by_, Pl.thB p ax ay bx by_, Pl.thC p ax ay bx by_), 0))) := by unfold Hid Pl.ltOf; rw [if_pos h0]
    have hv : Hid (Pl.fieldB p = true ∧ (Pl.ptsB p [(ax, ay), (bx, by_)]) = true) := Pl.ask_ok h0
    have hp := Pl.field_bd hv.out.1
    obtain ⟨hp1, hp2⟩ := hp
    obtain ⟨⟨ax1, ax2, ay1, ay2⟩, bx1, bx2, by_1, by_2⟩ := Pl.pts2_bd hv.out.2
    have hf := hv.out.1
    go_enter Tryz.func7, Tryz.ntmps7
    go_wp2_with fail
    refine (l01Code_any p _ 0 2 2 [(ax, ay), (bx, by_)] rfl (by omega) _ (by simp) ?_).mono ?_
    · intro j hj
      match j, hj with
      | 0, _ => exact ⟨by go_simp, by go_simp⟩
      | 1, _ => exact ⟨by go_simp, by go_simp⟩
    · rintro e w1 ⟨rfl, hb⟩
      have c00 : w1.cell? ⟨w.heap.size, 0, none⟩ = some (.int .i64 ax) := keepC hb (by go_simp)
      have c01 : w1.cell? ⟨w.heap.size, 1, none⟩ = some (.int .i64 ay) := keepC hb (by go_simp)
      have c10 : w1.cell? ⟨w.heap.size + 1, 0, none⟩ = some (.int .i64 bx) := keepC hb (by go_simp)
      have c11 : w1.cell? ⟨w.heap.size + 1, 1, none⟩ = some (.int .i64 by_) := keepC hb (by go_simp)
      have z0 : w1.cell? ⟨w.heap.size + 1 + 1, 0, none⟩ = some (.int .i64 0) := cellOf hb (by go_simp) (by simp <;> omega)
      have y0 : w1.frozen? ⟨w.heap.size + 1 + 1, 0, none⟩ = false := frozenOf hb (by go_simp) (by simp <;> omega)
      have z1 : w1.cell? ⟨w.heap.size + 1 + 1, 1, none⟩ = some (.int .i64 0) := cellOf hb (by go_simp) (by simp <;> omega)
      have y1 : w1.frozen? ⟨w.heap.size + 1 + 1, 1, none⟩ = false := frozenOf hb (by go_simp) (by simp <;> omega)
      have z2 : w1.cell? ⟨w.heap.size + 1 + 1, 2, none⟩ = some (.int .i64 0) := cellOf hb (by go_simp) (by simp <;> omega)
      have y2 : w1.frozen? ⟨w.heap.size + 1 + 1, 2, none⟩ = false := frozenOf hb (by go_simp) (by simp <;> omega)
      have hB : Below w.heap.size w w1 := below_of (by go_grown) hb (by simp <;> omega)
      clear hb
      by_cases heq : ax = bx ∧ ay = by_
      · have hq : ∀ w', (Op.equalIn 10000 25 (.agg #[.int .i64 ax, .int .i64 ay]) (.agg #[.int .i64 bx, .int .i64 by_])).run Tryz.prog w' = .ok (true) w' := fun w' => by rw [eqPt_small w' (by omega) (by omega) (by omega) (by omega) (by omega) (by omega) (by omega) (by omega), show (ax == bx && ay == by_) = true by simp [heq.1, heq.2]]
        have hcs := hid heq
        clear heq
        go_wp2_with fail
        try simp only [Exit.inBlock, Exit.then]
        refine bodyPost_ret (by simp [results, Tryz.results7, go_sem, y0, y1, y2, z0, z1, z2]; try rfl) rfl ?_
        exact ⟨ret_li (by rw [hfin.out, if_pos hcs.out]) (by rw [hfin.out, if_pos hcs.out]) (by rw [hfin.out, if_pos hcs.out]) (by rw [hfin.out, if_pos hcs.out]), by first | exact hB | go_grown⟩
      · have hq : ∀ w', (Op.equalIn 10000 25 (.agg #[.int .i64 ax, .int .i64 ay]) (.agg #[.int .i64 bx, .int .i64 by_])).run Tryz.prog w' = .ok (false) w' := fun w' => by rw [eqPt_small w' (by omega) (by omega) (by omega) (by omega) (by omega) (by omega) (by omega) (by omega), show (ax == bx && ay == by_) = false by simpa using heq]
        have hcs := hid heq
        clear heq
        go_wp2_with (go_at_call 44; refine (l01Through_any _ _ _ _ _ _ hf (by omega) (by omega) (by omega) (by omega) (by omega) (by omega) (by omega) (by omega)).mono ?_; rintro e w' ⟨rfl, hbn⟩; replace y0 := keepF hbn z0 y0; replace y1 := keepF hbn z1 y1; replace y2 := keepF hbn z2 y2; replace z0 := keepC hbn z0; replace z1 := keepC hbn z1; replace z2 := keepC hbn z2; replace hB := below_of (B := w.heap.size) (a := w) (by first | exact hB | (have := hB.size; go_grown)) hbn (by first | exact hB.size | (have := hB.size; simp <;> omega)); clear hbn)
        try simp only [Exit.inBlock, Exit.then]
        refine bodyPost_ret (by simp [results, Tryz.results7, go_sem, y0, y1, y2, z0, z1, z2]; try rfl) rfl ?_
        have ht := Pl.th_spec hf (Pl.ne_pt ax1 ax2 ay1 ay2 bx1 bx2 by_1 by_2 hcs.out)
        exact ⟨ret_li (by rw [hfin.out, if_neg hcs.out]; exact ht.1) (by rw [hfin.out, if_neg hcs.out]; exact ht.2.1) (by rw [hfin.out, if_neg hcs.out]; exact ht.2.2) (by rw [hfin.out, if_neg hcs.out]), by first | exact hB | go_grown⟩
  · have hne : (Pl.ask p (Pl.ptsB p [(ax, ay), (bx, by_)]) != 0) = true := by simpa using h0
    have hfin : Hid (Pl.ltOf p ax ay bx by_ = ((0, 0, 0), Pl.ask p (Pl.ptsB p [(ax, ay), (bx, by_)]))) := by unfold Hid Pl.ltOf; rw [if_neg h0]
    clear h0
    go_enter Tryz.func7, Tryz.ntmps7
    go_wp2_with fail
    refine (l01Code_any p _ 0 2 2 [(ax, ay), (bx, by_)] rfl (by omega) _ (by simp) ?_).mono ?_
    · intro j hj
      match j, hj with
      | 0, _ => exact ⟨by go_simp, by go_simp⟩
      | 1, _ => exact ⟨by go_simp, by go_simp⟩
    · rintro e w1 ⟨rfl, hb⟩
      have z0 : w1.cell? ⟨w.heap.size + 1 + 1, 0, none⟩ = some (.int .i64 0) := cellOf hb (by go_simp) (by simp <;> omega)
      have y0 : w1.frozen? ⟨w.heap.size + 1 + 1, 0, none⟩ = false := frozenOf hb (by go_simp) (by simp <;> omega)
      have z1 : w1.cell? ⟨w.heap.size + 1 + 1, 1, none⟩ = some (.int .i64 0) := cellOf hb (by go_simp) (by simp <;> omega)
      have y1 : w1.frozen? ⟨w.heap.size + 1 + 1, 1, none⟩ = false := frozenOf hb (by go_simp) (by simp <;> omega)
      have z2 : w1.cell? ⟨w.heap.size + 1 + 1, 2, none⟩ = some (.int .i64 0) := cellOf hb (by go_simp) (by simp <;> omega)
      have y2 : w1.frozen? ⟨w.heap.size + 1 + 1, 2, none⟩ = false := frozenOf hb (by go_simp) (by simp <;> omega)
      have hB : Below w.heap.size w w1 := below_of (by go_grown) hb (by simp <;> omega)
      clear hb
      go_wp2_with fail
      try simp only [Exit.inBlock, Exit.then]
      refine bodyPost_ret (by simp [results, Tryz.results7, go_sem, y0, y1, y2, z0, z1, z2]; try rfl) rfl ?_
      exact ⟨ret_li (by rw [hfin.out]) (by rw [hfin.out]) (by rw [hfin.out]) (by rw [hfin.out]), by go_grown⟩
end Go.Proofs.YtbjcbbnfgfmllaaGreat
