/- Contracts: combinations, midpoints, parallels through points, lines of numbers: exported functions of both sides. -/
import Derived.Test.YtbjcbbnfgfmllaaGreatDoorH2
import Derived.Test.YtbjcbbnfgfmllaaGreatDoorPlA
import Derived.Test.YtbjcbbnfgfmllaaGreatDoorK
set_option linter.unusedVariables false
set_option linter.unusedSimpArgs false
set_option maxRecDepth 100000
set_option maxHeartbeats 1000000
namespace Go.Proofs.YtbjcbbnfgfmllaaGreatDoor
open Go.RowKit
theorem midpoint_any (p ax ay bx by_ : Int) (w : World) (hf : Pl.fieldB p = true) (ax1 : 0 ≤ ax) (ax2 : ax ≤ 31) (ay1 : 0 ≤ ay) (ay2 : ay ≤ 31) (bx1 : 0 ≤ bx) (bx2 : bx ≤ 31) (by_1 : 0 ≤ by_) (by_2 : by_ ≤ 31) :
    Calls Tryz.prog 61 #[.int .i64 p, .agg #[.int .i64 ax, .int .i64 ay], .agg #[.int .i64 bx, .int .i64 by_]] w fun e w' => e = .returned (.agg #[.int .i64 (Pl.comb p ax bx (Pl.inv p 2)), .int .i64 (Pl.comb p ay by_ (Pl.inv p 2))]) ∧ Below w.heap.size w w' := by
  have hp := Pl.field_bd hf
  obtain ⟨hp1, hp2⟩ := hp
  have hi := Pl.inv2_bd hf
  obtain ⟨hi1, hi2⟩ := hi
  go_enter Tryz.func61, Tryz.ntmps61
  go_wp2_with fail
  generalize hW : (World.alloc (World.alloc (World.alloc w (.cells #[.int .i64 ax, .int .i64 ay] 29)) (.cells #[.int .i64 bx, .int .i64 by_] 29)) (.cells #[.int .i64 0, .int .i64 0] 29)) = W
  have d00 : W.cell? ⟨w.heap.size, 0, none⟩ = some (.int .i64 ax) := by subst hW; go_simp
  have d01 : W.cell? ⟨w.heap.size, 1, none⟩ = some (.int .i64 ay) := by subst hW; go_simp
  have d10 : W.cell? ⟨w.heap.size + 1, 0, none⟩ = some (.int .i64 bx) := by subst hW; go_simp
  have d11 : W.cell? ⟨w.heap.size + 1, 1, none⟩ = some (.int .i64 by_) := by subst hW; go_simp
  have z0 : W.cell? ⟨w.heap.size + 1 + 1, 0, none⟩ = some (.int .i64 0) := by subst hW; go_simp
  have y0 : W.frozen? ⟨w.heap.size + 1 + 1, 0, none⟩ = false := by subst hW; go_simp
  have z1 : W.cell? ⟨w.heap.size + 1 + 1, 1, none⟩ = some (.int .i64 0) := by subst hW; go_simp
  have y1 : W.frozen? ⟨w.heap.size + 1 + 1, 1, none⟩ = false := by subst hW; go_simp
  have hgw0 : w.heap.size ≤ w.heap.size + 1 + 1 := by omega
  have hB : Below w.heap.size w W := by subst hW; go_grown
  clear hW
  generalize hgr : w.heap.size + 1 + 1 = r at *
  clear hgr
  refine Reg.wp_region_grow (by kernel_rfl) 6 6 (fun _ => (#[.int .i64 0, .int .i64 0], 0)) (by kernel_rfl) ?_ ?_
  · intro k o h1 h2
    omega
  simp only [List.take_succ_cons, List.take_zero, List.drop_succ_cons, List.drop_zero]
  refine Reg.wpG_step (v := ?vr1x0) (fun wq hq => ?gr1x0) ?kr1x0
  case gr1x0 => (have q0 := keepC hq d00; have q1 := keepC hq d01; have q2 := keepC hq d10; have q3 := keepC hq d11; have q6 := keepC hq z0; have q7 := keepC hq z1; refine Reg.gAt_val ?_; go_simp; first | done | (with_reducible rfl) | rfl)
  try simp only [Act.put, List.setIfInBounds_toArray, List.set_cons_zero, List.set_cons_succ]
  refine Reg.wpG_step (v := ?vr1x1) (fun wq hq => ?gr1x1) ?kr1x1
  case gr1x1 => (have q0 := keepC hq d00; have q1 := keepC hq d01; have q2 := keepC hq d10; have q3 := keepC hq d11; have q6 := keepC hq z0; have q7 := keepC hq z1; refine Reg.gAt_val ?_; go_simp; first | done | (with_reducible rfl) | rfl)
  try simp only [Act.put, List.setIfInBounds_toArray, List.set_cons_zero, List.set_cons_succ]
  refine Reg.wpG_step (v := ?vr1x2) (fun wq hq => ?gr1x2) ?kr1x2
  case gr1x2 => (have q0 := keepC hq d00; have q1 := keepC hq d01; have q2 := keepC hq d10; have q3 := keepC hq d11; have q6 := keepC hq z0; have q7 := keepC hq z1; refine Reg.gAt_val ?_; go_simp; first | done | (with_reducible rfl) | rfl)
  try simp only [Act.put, List.setIfInBounds_toArray, List.set_cons_zero, List.set_cons_succ]
  refine Reg.wpG_step (v := ?vr1x3) (fun wq hq => ?gr1x3) ?kr1x3
  case gr1x3 => (have q0 := keepC hq d00; have q1 := keepC hq d01; have q2 := keepC hq d10; have q3 := keepC hq d11; have q6 := keepC hq z0; have q7 := keepC hq z1; refine Reg.gAt_val ?_; go_simp; first | done | (with_reducible rfl) | rfl)
  try simp only [Act.put, List.setIfInBounds_toArray, List.set_cons_zero, List.set_cons_succ]
  refine Reg.wpG_step (v := .int .i64 (Pl.inv p 2)) (fun wq hq => ?gr1x4) ?kr1x4
  case gr1x4 => (unfold Reg.gAt; go_simp; refine Reg.quiet_enter ?_; exact (inverse_any _ _ _ (by omega) (by omega) (by omega) (by omega)).mono fun e w2 ⟨he, hw⟩ => ⟨he, hw ▸ Below.refl _ _⟩)
  try simp only [Act.put, List.setIfInBounds_toArray, List.set_cons_zero, List.set_cons_succ]
  refine Reg.wpG_step (v := .agg #[.int .i64 (Pl.comb p ax bx (Pl.inv p 2)), .int .i64 (Pl.comb p ay by_ (Pl.inv p 2))]) (fun wq hq => ?gr1x5) ?kr1x5
  case gr1x5 => (unfold Reg.gAt; go_simp; refine Reg.quiet_enter ?_; exact combination_any _ _ _ _ _ _ _ (by omega) (by omega) (by omega) (by omega) (by omega) (by omega) (by omega) (by omega) (by omega) (by omega) (by omega) (by omega))
  try simp only [Act.put, List.setIfInBounds_toArray, List.set_cons_zero, List.set_cons_succ]
  intro w2 g hB2 hg hd
  clear hg hd
  change wpList _ _ _ _ (Reg.putPtrs _ g [] _) _
  simp only [Reg.putPtrs]
  replace d00 := keepC hB2 d00
  replace d01 := keepC hB2 d01
  replace d10 := keepC hB2 d10
  replace d11 := keepC hB2 d11
  replace y0 := keepF hB2 z0 y0
  replace y1 := keepF hB2 z1 y1
  replace z0 := keepC hB2 z0
  replace z1 := keepC hB2 z1
  replace hB := below_of hB hB2 hB.size
  clear hB2 
  go_wp2_with fail
  try simp only [Exit.inBlock, Exit.then]
  refine bodyPost_ret (by simp [results, Tryz.results61, go_sem, y0, y1, z0, z1]; try rfl) rfl ?_
  exact ⟨rfl, by go_grown⟩
theorem l01Parallel_any (p la lb lc ax ay : Int) (w : World) (hp1 : 1 ≤ p) (hp2 : p ≤ 31) (la1 : 0 ≤ la) (la2 : la ≤ 31) (lb1 : 0 ≤ lb) (lb2 : lb ≤ 31) (lc1 : 0 ≤ lc) (lc2 : lc ≤ 31) (ax1 : 0 ≤ ax) (ax2 : ax ≤ 31) (ay1 : 0 ≤ ay) (ay2 : ay ≤ 31) :
    Calls Tryz.prog 90 #[.int .i64 p, .agg #[.int .i64 la, .int .i64 lb, .int .i64 lc], .agg #[.int .i64 ax, .int .i64 ay]] w fun e w' => e = .returned (.agg #[.int .i64 la, .int .i64 lb, .int .i64 ((-(la * ax + lb * ay)) % p)]) ∧ Below w.heap.size w w' := by
  have h1 := Pl.mulA (show -31 ≤ -la by omega) (show -la ≤ 31 by omega) (show -31 ≤ ax by omega) (show ax ≤ 31 by omega)
  obtain ⟨h1a, h1b⟩ := h1
  have h2 := Pl.mulA (show -31 ≤ lb by omega) (show lb ≤ 31 by omega) (show -31 ≤ ay by omega) (show ay ≤ 31 by omega)
  obtain ⟨h2a, h2b⟩ := h2
  have e0 : IntKind.i64.wrap (-la) = -la := IntWalk.i64_in _ (by omega)
  have e1 : IntKind.i64.wrap (-la * ax) = -la * ax := IntWalk.i64_in _ (by omega)
  have e2 : IntKind.i64.wrap (lb * ay) = lb * ay := IntWalk.i64_in _ (by omega)
  have e3 : IntKind.i64.wrap (-la * ax - lb * ay) = -la * ax - lb * ay := IntWalk.i64_in _ (by omega)
  go_enter Tryz.func90, Tryz.ntmps90
  go_wp2_with fail
  go_region_held3 (fun w' => w'.cell? ⟨w.heap.size, 0, none⟩ = some (.int .i64 la) ∧ w'.cell? ⟨w.heap.size, 1, none⟩ = some (.int .i64 lb) ∧ w'.cell? ⟨w.heap.size, 2, none⟩ = some (.int .i64 lc) ∧ w'.cell? ⟨w.heap.size + 1, 0, none⟩ = some (.int .i64 ax) ∧ w'.cell? ⟨w.heap.size + 1, 1, none⟩ = some (.int .i64 ay)) (go_keep) (first | (go_at_call 85; refine (l01Mod_any _ _ _ (by omega) (by omega)).mono ?_; rintro e w' ⟨rfl, rfl⟩))
  go_wp2_with fail
  go_returns
  exact ⟨ret_l rfl rfl (Pl.par_neg _ _ _ _ _), by go_grown⟩
theorem MidpointOf1_any (p ax ay bx by_ : Int) (b0 b1 b2 : Nat) (w : World) (c00 : w.cell? ⟨b0, 0, none⟩ = some (.int .i64 p)) (c10 : w.cell? ⟨b1, 0, none⟩ = some (.int .i64 ax)) (c11 : w.cell? ⟨b1, 1, none⟩ = some (.int .i64 ay)) (c20 : w.cell? ⟨b2, 0, none⟩ = some (.int .i64 bx)) (c21 : w.cell? ⟨b2, 1, none⟩ = some (.int .i64 by_)) :
    Calls Tryz.prog 60 #[.pointer (some ⟨b0, 0, none⟩), .pointer (some ⟨b1, 0, none⟩), .pointer (some ⟨b2, 0, none⟩)] w fun e w' => e = .returned (.bool (Pl.ptsB p [(ax, ay), (bx, by_)])) ∧ Below w.heap.size w w' := by
  go_enter Tryz.func60, Tryz.ntmps60
  go_wp2_with fail
  refine (arePoints_any p _ 0 2 2 [(ax, ay), (bx, by_)] rfl (by omega) _ (by simp) ?_).mono ?_
  · intro j hj
    match j, hj with
    | 0, _ => exact ⟨by go_simp, by go_simp⟩
    | 1, _ => exact ⟨by go_simp, by go_simp⟩
  · rintro e w' ⟨rfl, hb⟩
    go_wp2_with fail
    go_ret
    exact ⟨rfl, below_of (by go_grown) hb (by simp <;> omega)⟩
theorem MidpointOf_any (p ax ay bx by_ : Int) (w : World) :
    Calls Tryz.prog 20 #[.int .i64 p, .agg #[.int .i64 ax, .int .i64 ay], .agg #[.int .i64 bx, .int .i64 by_]] w fun e w' => e = .returned (.tuple #[.agg #[.int .i64 ((Pl.midOf p ax ay bx by_).1.1), .int .i64 ((Pl.midOf p ax ay bx by_).1.2)], .int .i64 ((Pl.midOf p ax ay bx by_).2)]) ∧ Below w.heap.size w w' := by
  by_cases h0 : Pl.ask p (Pl.ptsB p [(ax, ay), (bx, by_)]) = 0
  · have hfin : Hid (Pl.midOf p ax ay bx by_ = ((Pl.comb p ax bx (Pl.inv p 2), Pl.comb p ay by_ (Pl.inv p 2)), 0)) := by unfold Hid Pl.midOf; rw [if_pos h0]
    have hv : Hid (Pl.fieldB p = true ∧ (Pl.ptsB p [(ax, ay), (bx, by_)]) = true) := Pl.ask_ok h0
    have hp := Pl.field_bd hv.out.1
    obtain ⟨hp1, hp2⟩ := hp
    obtain ⟨⟨ax1, ax2, ay1, ay2⟩, bx1, bx2, by_1, by_2⟩ := Pl.pts2_bd hv.out.2
    have hf := hv.out.1
    go_enter Tryz.func20, Tryz.ntmps20
    go_wp2_with fail
    refine (asked_any p _ _ (Pl.ptsB p [(ax, ay), (bx, by_)]) _ (by kernel_rfl) ?_).mono ?_
    · intro _
      exact MidpointOf1_any p ax ay bx by_ _ _ _ _ (by go_simp) (by go_simp) (by go_simp) (by go_simp) (by go_simp)
    · rintro e w1 ⟨rfl, hb⟩
      have c00 : w1.cell? ⟨w.heap.size, 0, none⟩ = some (.int .i64 p) := cellOf hb (by go_simp) (by simp <;> omega)
      have c10 : w1.cell? ⟨w.heap.size + 1, 0, none⟩ = some (.int .i64 ax) := cellOf hb (by go_simp) (by simp <;> omega)
      have c11 : w1.cell? ⟨w.heap.size + 1, 1, none⟩ = some (.int .i64 ay) := cellOf hb (by go_simp) (by simp <;> omega)
      have c20 : w1.cell? ⟨w.heap.size + 2, 0, none⟩ = some (.int .i64 bx) := cellOf hb (by go_simp) (by simp <;> omega)
      have c21 : w1.cell? ⟨w.heap.size + 2, 1, none⟩ = some (.int .i64 by_) := cellOf hb (by go_simp) (by simp <;> omega)
      have z0 : w1.cell? ⟨w.heap.size + 1 + 1 + 1, 0, none⟩ = some (.int .i64 0) := cellOf hb (by go_simp) (by simp <;> omega)
      have y0 : w1.frozen? ⟨w.heap.size + 1 + 1 + 1, 0, none⟩ = false := frozenOf hb (by go_simp) (by simp <;> omega)
      have z1 : w1.cell? ⟨w.heap.size + 1 + 1 + 1, 1, none⟩ = some (.int .i64 0) := cellOf hb (by go_simp) (by simp <;> omega)
      have y1 : w1.frozen? ⟨w.heap.size + 1 + 1 + 1, 1, none⟩ = false := frozenOf hb (by go_simp) (by simp <;> omega)
      have hz : w.heap.size + 3 ≤ w1.heap.size := by have := hb.size; simp at this; omega
      have hB : Below w.heap.size w w1 := below_of (by go_grown) hb (by simp <;> omega)
      clear hb
      go_wp2_with (go_at_call 61; refine (midpoint_any _ _ _ _ _ _ hf (by omega) (by omega) (by omega) (by omega) (by omega) (by omega) (by omega) (by omega)).mono ?_; rintro e w' ⟨rfl, hbn⟩; replace c00 := keepC hbn (by first | exact c00 | exact keepA _ c00 | exact keepA _ (keepA _ c00)); replace c10 := keepC hbn (by first | exact c10 | exact keepA _ c10 | exact keepA _ (keepA _ c10)); replace c11 := keepC hbn (by first | exact c11 | exact keepA _ c11 | exact keepA _ (keepA _ c11)); replace c20 := keepC hbn (by first | exact c20 | exact keepA _ c20 | exact keepA _ (keepA _ c20)); replace c21 := keepC hbn (by first | exact c21 | exact keepA _ c21 | exact keepA _ (keepA _ c21)); replace y0 := keepF hbn z0 y0; replace y1 := keepF hbn z1 y1; replace z0 := keepC hbn z0; replace z1 := keepC hbn z1; replace hB := below_of (B := w.heap.size) (a := w) (by first | exact hB | (have := hB.size; go_grown)) hbn (by first | exact hB.size | (have := hB.size; simp <;> omega)); clear hbn)
      try simp only [Exit.inBlock, Exit.then]
      refine bodyPost_ret (by simp [results, Tryz.results20, go_sem, y0, y1, z0, z1]; try rfl) rfl ?_
      exact ⟨ret_pi (by rw [hfin.out]) (by rw [hfin.out]) (by rw [hfin.out]), by go_grown⟩
  · have hne : (Pl.ask p (Pl.ptsB p [(ax, ay), (bx, by_)]) != 0) = true := by simpa using h0
    have hfin : Hid (Pl.midOf p ax ay bx by_ = ((0, 0), Pl.ask p (Pl.ptsB p [(ax, ay), (bx, by_)]))) := by unfold Hid Pl.midOf; rw [if_neg h0]
    clear h0
    go_enter Tryz.func20, Tryz.ntmps20
    go_wp2_with fail
    refine (asked_any p _ _ (Pl.ptsB p [(ax, ay), (bx, by_)]) _ (by kernel_rfl) ?_).mono ?_
    · intro _
      exact MidpointOf1_any p ax ay bx by_ _ _ _ _ (by go_simp) (by go_simp) (by go_simp) (by go_simp) (by go_simp)
    · rintro e w1 ⟨rfl, hb⟩
      have z0 : w1.cell? ⟨w.heap.size + 1 + 1 + 1, 0, none⟩ = some (.int .i64 0) := cellOf hb (by go_simp) (by simp <;> omega)
      have y0 : w1.frozen? ⟨w.heap.size + 1 + 1 + 1, 0, none⟩ = false := frozenOf hb (by go_simp) (by simp <;> omega)
      have z1 : w1.cell? ⟨w.heap.size + 1 + 1 + 1, 1, none⟩ = some (.int .i64 0) := cellOf hb (by go_simp) (by simp <;> omega)
      have y1 : w1.frozen? ⟨w.heap.size + 1 + 1 + 1, 1, none⟩ = false := frozenOf hb (by go_simp) (by simp <;> omega)
      have hB : Below w.heap.size w w1 := below_of (by go_grown) hb (by simp <;> omega)
      clear hb
      go_wp2_with fail
      try simp only [Exit.inBlock, Exit.then]
      refine bodyPost_ret (by simp [results, Tryz.results20, go_sem, y0, y1, z0, z1]; try rfl) rfl ?_
      exact ⟨ret_pi (by rw [hfin.out]) (by rw [hfin.out]) (by rw [hfin.out]), by go_grown⟩
end Go.Proofs.YtbjcbbnfgfmllaaGreatDoor
