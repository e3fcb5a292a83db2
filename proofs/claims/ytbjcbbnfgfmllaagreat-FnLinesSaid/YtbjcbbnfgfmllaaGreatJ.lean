/- Contracts: combinations, midpoints, parallels through points, lines of numbers: exported functions of both sides. -/
import Derived.Test.YtbjcbbnfgfmllaaGreatH2
import Derived.Test.YtbjcbbnfgfmllaaGreatPlA
import Derived.Test.YtbjcbbnfgfmllaaGreatK
set_option linter.unusedVariables false
set_option linter.unusedSimpArgs false
set_option maxRecDepth 100000
set_option maxHeartbeats 1000000
namespace Go.Proofs.YtbjcbbnfgfmllaaGreat
open Go.RowKit
theorem midpoint_any (p ax ay bx by_ : Int) (w : World) (hf : Pl.fieldB p = true) (ax1 : 0 ≤ ax) (ax2 : ax ≤ 31) (ay1 : 0 ≤ ay) (ay2 : ay ≤ 31) (bx1 : 0 ≤ bx) (bx2 : bx ≤ 31) (by_1 : 0 ≤ by_) (by_2 : by_ ≤ 31) :
    Calls Tryz.prog 82 #[.int .i64 p, .agg #[.int .i64 ax, .int .i64 ay], .agg #[.int .i64 bx, .int .i64 by_]] w fun e w' => e = .returned (.agg #[.int .i64 (Pl.comb p ax bx (Pl.inv p 2)), .int .i64 (Pl.comb p ay by_ (Pl.inv p 2))]) ∧ Below w.heap.size w w' := by
  have hp := Pl.field_bd hf
  obtain ⟨hp1, hp2⟩ := hp
  have hi := Pl.inv2_bd hf
  obtain ⟨hi1, hi2⟩ := hi
  go_enter Tryz.func82, Tryz.ntmps82
  go_wp2_with fail
  generalize hW : (World.alloc (World.alloc (World.alloc w (.cells #[.int .i64 ax, .int .i64 ay] 25)) (.cells #[.int .i64 bx, .int .i64 by_] 25)) (.cells #[.int .i64 0, .int .i64 0] 25)) = W
  have d00 : W.cell? ⟨w.heap.size, 0, none⟩ = some (.int .i64 ax) := by subst hW; go_simp
  have d01 : W.cell? ⟨w.heap.size, 1, none⟩ = some (.int .i64 ay) := by subst hW; go_simp
  have d10 : W.cell? ⟨w.heap.size + 1, 0, none⟩ = some (.int .i64 bx) := by subst hW; go_simp
  have d11 : W.cell? ⟨w.heap.size + 1, 1, none⟩ = some (.int .i64 by_) := by subst hW; go_simp
  have z0 : W.cell? ⟨w.heap.size + 1 + 1, 0, none⟩ = some (.int .i64 0) := by subst hW; go_simp
  have y0 : W.frozen? ⟨w.heap.size + 1 + 1, 0, none⟩ = false := by subst hW; go_simp
  have z1 : W.cell? ⟨w.heap.size + 1 + 1, 1, none⟩ = some (.int .i64 0) := by subst hW; go_simp
  have y1 : W.frozen? ⟨w.heap.size + 1 + 1, 1, none⟩ = false := by subst hW; go_simp
  have hgw0 : w.heap.size ≤ w.heap.size + 1 + 1 := by omega
  have hB : Below w.heap.size w W := by subst hW; go_grown
  clear hW
  generalize hgr : w.heap.size + 1 + 1 = r at *
  clear hgr
  refine Reg.wp_region_grow (by kernel_rfl) 6 6 (fun _ => (#[.int .i64 0, .int .i64 0], 0)) (by kernel_rfl) ?_ ?_
  · intro k o h1 h2
    omega
  simp only [List.take_succ_cons, List.take_zero, List.drop_succ_cons, List.drop_zero]
  refine Reg.wpG_step (v := ?vr1x0) (fun wq hq => ?gr1x0) ?kr1x0
  case gr1x0 => (have q0 := keepC hq d00; have q1 := keepC hq d01; have q2 := keepC hq d10; have q3 := keepC hq d11; have q6 := keepC hq z0; have q7 := keepC hq z1; refine Reg.gAt_val ?_; go_simp; first | done | (with_reducible rfl) | rfl)
  try simp only [Act.put, List.setIfInBounds_toArray, List.set_cons_zero, List.set_cons_succ]
  refine Reg.wpG_step (v := ?vr1x1) (fun wq hq => ?gr1x1) ?kr1x1
  case gr1x1 => (have q0 := keepC hq d00; have q1 := keepC hq d01; have q2 := keepC hq d10; have q3 := keepC hq d11; have q6 := keepC hq z0; have q7 := keepC hq z1; refine Reg.gAt_val ?_; go_simp; first | done | (with_reducible rfl) | rfl)
  try simp only [Act.put, List.setIfInBounds_toArray, List.set_cons_zero, List.set_cons_succ]
  refine Reg.wpG_step (v := ?vr1x2) (fun wq hq => ?gr1x2) ?kr1x2
  case gr1x2 => (have q0 := keepC hq d00; have q1 := keepC hq d01; have q2 := keepC hq d10; have q3 := keepC hq d11; have q6 := keepC hq z0; have q7 := keepC hq z1; refine Reg.gAt_val ?_; go_simp; first | done | (with_reducible rfl) | rfl)
  try simp only [Act.put, List.setIfInBounds_toArray, List.set_cons_zero, List.set_cons_succ]
  refine Reg.wpG_step (v := ?vr1x3) (fun wq hq => ?gr1x3) ?kr1x3
  case gr1x3 => (have q0 := keepC hq d00; have q1 := keepC hq d01; have q2 := keepC hq d10; have q3 := keepC hq d11; have q6 := keepC hq z0; have q7 := keepC hq z1; refine Reg.gAt_val ?_; go_simp; first | done | (with_reducible rfl) | rfl)
  try simp only [Act.put, List.setIfInBounds_toArray, List.set_cons_zero, List.set_cons_succ]
  refine Reg.wpG_step (v := .int .i64 (Pl.inv p 2)) (fun wq hq => ?gr1x4) ?kr1x4
  case gr1x4 => (unfold Reg.gAt; go_simp; refine Reg.quiet_enter ?_; exact (inverse_any _ _ _ (by omega) (by omega) (by omega) (by omega)).mono fun e w2 ⟨he, hw⟩ => ⟨he, hw ▸ Below.refl _ _⟩)
  try simp only [Act.put, List.setIfInBounds_toArray, List.set_cons_zero, List.set_cons_succ]
  refine Reg.wpG_step (v := .agg #[.int .i64 (Pl.comb p ax bx (Pl.inv p 2)), .int .i64 (Pl.comb p ay by_ (Pl.inv p 2))]) (fun wq hq => ?gr1x5) ?kr1x5
  case gr1x5 => (unfold Reg.gAt; go_simp; refine Reg.quiet_enter ?_; exact combination_any _ _ _ _ _ _ _ (by omega) (by omega) (by omega) (by omega) (by omega) (by omega) (by omega) (by omega) (by omega) (by omega) (by omega) (by omega))
  try simp only [Act.put, List.setIfInBounds_toArray, List.set_cons_zero, List.set_cons_succ]
  intro w2 g hB2 hg hd
  clear hg hd
  change wpList _ _ _ _ (Reg.putPtrs _ g [] _) _
  simp only [Reg.putPtrs]
  replace d00 := keepC hB2 d00
  replace d01 := keepC hB2 d01
  replace d10 := keepC hB2 d10
  replace d11 := keepC hB2 d11
  replace y0 := keepF hB2 z0 y0
  replace y1 := keepF hB2 z1 y1
  replace z0 := keepC hB2 z0
  replace z1 := keepC hB2 z1
  replace hB := below_of hB hB2 hB.size
  clear hB2 
  go_wp2_with fail
  try simp only [Exit.inBlock, Exit.then]
  refine bodyPost_ret (by simp [results, Tryz.results82, go_sem, y0, y1, z0, z1]; try rfl) rfl ?_
  exact ⟨rfl, by go_grown⟩
theorem l01Middle_any (p ax ay bx by_ : Int) (w : World) (hf : Pl.fieldB p = true) (ax1 : 0 ≤ ax) (ax2 : ax ≤ 31) (ay1 : 0 ≤ ay) (ay2 : ay ≤ 31) (bx1 : 0 ≤ bx) (bx2 : bx ≤ 31) (by_1 : 0 ≤ by_) (by_2 : by_ ≤ 31) :
    Calls Tryz.prog 83 #[.int .i64 p, .agg #[.int .i64 ax, .int .i64 ay], .agg #[.int .i64 bx, .int .i64 by_]] w fun e w' => e = .returned (.agg #[.int .i64 (Pl.comb p ax bx (Pl.inv p 2)), .int .i64 (Pl.comb p ay by_ (Pl.inv p 2))]) ∧ Below w.heap.size w w' := by
  have hp := Pl.field_bd hf
  obtain ⟨hp1, hp2⟩ := hp
  have hi := Pl.inv2_bd hf
  obtain ⟨hi1, hi2⟩ := hi
  have r1n := Int.emod_nonneg (ax + bx) (show p ≠ 0 by omega)
  have r1l := Int.emod_lt_of_pos (ax + bx) (show 0 < p by omega)
  have r2n := Int.emod_nonneg (ay + by_) (show p ≠ 0 by omega)
  have r2l := Int.emod_lt_of_pos (ay + by_) (show 0 < p by omega)
  go_enter Tryz.func83, Tryz.ntmps83
  go_wp2_with fail
  generalize hW : (World.alloc (World.alloc (World.alloc w (.cells #[.int .i64 ax, .int .i64 ay] 25)) (.cells #[.int .i64 bx, .int .i64 by_] 25)) (.cells #[.int .i64 0, .int .i64 0] 25)) = W
  have d00 : W.cell? ⟨w.heap.size, 0, none⟩ = some (.int .i64 ax) := by subst hW; go_simp
  have d01 : W.cell? ⟨w.heap.size, 1, none⟩ = some (.int .i64 ay) := by subst hW; go_simp
  have d10 : W.cell? ⟨w.heap.size + 1, 0, none⟩ = some (.int .i64 bx) := by subst hW; go_simp
  have d11 : W.cell? ⟨w.heap.size + 1, 1, none⟩ = some (.int .i64 by_) := by subst hW; go_simp
  have z0 : W.cell? ⟨w.heap.size + 1 + 1, 0, none⟩ = some (.int .i64 0) := by subst hW; go_simp
  have y0 : W.frozen? ⟨w.heap.size + 1 + 1, 0, none⟩ = false := by subst hW; go_simp
  have z1 : W.cell? ⟨w.heap.size + 1 + 1, 1, none⟩ = some (.int .i64 0) := by subst hW; go_simp
  have y1 : W.frozen? ⟨w.heap.size + 1 + 1, 1, none⟩ = false := by subst hW; go_simp
  have hgw0 : w.heap.size ≤ w.heap.size + 1 + 1 := by omega
  have hB : Below w.heap.size w W := by subst hW; go_grown
  clear hW
  generalize hgr : w.heap.size + 1 + 1 = r at *
  clear hgr
  go_wp2_with (first | (go_at_call 86; refine (l01Plus_any _ _ _ _ _ _ (by omega) (by omega) (by omega) (by omega) (by omega) (by omega) (by omega) (by omega) (by omega) (by omega)).mono ?_; rintro e w' ⟨rfl, hbn⟩; replace d00 := keepC hbn (by first | exact d00 | exact keepA _ d00 | exact keepA _ (keepA _ d00)); replace d01 := keepC hbn (by first | exact d01 | exact keepA _ d01 | exact keepA _ (keepA _ d01)); replace d10 := keepC hbn (by first | exact d10 | exact keepA _ d10 | exact keepA _ (keepA _ d10)); replace d11 := keepC hbn (by first | exact d11 | exact keepA _ d11 | exact keepA _ (keepA _ d11)); replace y0 := keepF hbn z0 y0; replace y1 := keepF hbn z1 y1; replace z0 := keepC hbn z0; replace z1 := keepC hbn z1; replace hB := below_of (B := w.heap.size) (a := w) (by first | exact hB | (have := hB.size; go_grown)) hbn (by first | exact hB.size | (have := hB.size; simp <;> omega)); clear hbn) | (go_at_call 87; refine (l01Times_any _ _ _ _ _ (by omega) (by omega) (by omega) (by omega) (by omega) (by omega) (by omega) (by omega)).mono ?_; rintro e w' ⟨rfl, hbn⟩; replace d00 := keepC hbn (by first | exact d00 | exact keepA _ d00 | exact keepA _ (keepA _ d00)); replace d01 := keepC hbn (by first | exact d01 | exact keepA _ d01 | exact keepA _ (keepA _ d01)); replace d10 := keepC hbn (by first | exact d10 | exact keepA _ d10 | exact keepA _ (keepA _ d10)); replace d11 := keepC hbn (by first | exact d11 | exact keepA _ d11 | exact keepA _ (keepA _ d11)); replace y0 := keepF hbn z0 y0; replace y1 := keepF hbn z1 y1; replace z0 := keepC hbn z0; replace z1 := keepC hbn z1; replace hB := below_of (B := w.heap.size) (a := w) (by first | exact hB | (have := hB.size; go_grown)) hbn (by first | exact hB.size | (have := hB.size; simp <;> omega)); clear hbn))
  try simp only [Exit.inBlock, Exit.then]
  refine bodyPost_ret (by simp [results, Tryz.results83, go_sem, y0, y1, z0, z1]; try rfl) rfl ?_
  exact ⟨ret_p (Pl.half_mid hf) (Pl.half_mid hf), by go_grown⟩
theorem l01Parallel_any (p la lb lc ax ay : Int) (w : World) (hp1 : 1 ≤ p) (hp2 : p ≤ 31) (la1 : 0 ≤ la) (la2 : la ≤ 31) (lb1 : 0 ≤ lb) (lb2 : lb ≤ 31) (lc1 : 0 ≤ lc) (lc2 : lc ≤ 31) (ax1 : 0 ≤ ax) (ax2 : ax ≤ 31) (ay1 : 0 ≤ ay) (ay2 : ay ≤ 31) :
    Calls Tryz.prog 66 #[.int .i64 p, .agg #[.int .i64 la, .int .i64 lb, .int .i64 lc], .agg #[.int .i64 ax, .int .i64 ay]] w fun e w' => e = .returned (.agg #[.int .i64 la, .int .i64 lb, .int .i64 ((-(la * ax + lb * ay)) % p)]) ∧ Below w.heap.size w w' := by
  have h1 := Pl.mulA (show -31 ≤ -la by omega) (show -la ≤ 31 by omega) (show -31 ≤ ax by omega) (show ax ≤ 31 by omega)
  obtain ⟨h1a, h1b⟩ := h1
  have h2 := Pl.mulA (show -31 ≤ lb by omega) (show lb ≤ 31 by omega) (show -31 ≤ ay by omega) (show ay ≤ 31 by omega)
  obtain ⟨h2a, h2b⟩ := h2
  have e0 : IntKind.i64.wrap (-la) = -la := IntWalk.i64_in _ (by omega)
  have e1 : IntKind.i64.wrap (-la * ax) = -la * ax := IntWalk.i64_in _ (by omega)
  have e2 : IntKind.i64.wrap (lb * ay) = lb * ay := IntWalk.i64_in _ (by omega)
  have e3 : IntKind.i64.wrap (-la * ax - lb * ay) = -la * ax - lb * ay := IntWalk.i64_in _ (by omega)
  go_enter Tryz.func66, Tryz.ntmps66
  go_wp2_with fail
  go_region_held3 (fun w' => w'.cell? ⟨w.heap.size, 0, none⟩ = some (.int .i64 la) ∧ w'.cell? ⟨w.heap.size, 1, none⟩ = some (.int .i64 lb) ∧ w'.cell? ⟨w.heap.size, 2, none⟩ = some (.int .i64 lc) ∧ w'.cell? ⟨w.heap.size + 1, 0, none⟩ = some (.int .i64 ax) ∧ w'.cell? ⟨w.heap.size + 1, 1, none⟩ = some (.int .i64 ay)) (go_keep) (first | (go_at_call 101; refine (l01Mod_any _ _ _ (by omega) (by omega)).mono ?_; rintro e w' ⟨rfl, rfl⟩))
  go_wp2_with fail
  go_returns
  exact ⟨ret_l rfl rfl (Pl.par_neg _ _ _ _ _), by go_grown⟩
theorem MidpointOf1_any (p ax ay bx by_ : Int) (b0 b1 b2 : Nat) (w : World) (c00 : w.cell? ⟨b0, 0, none⟩ = some (.int .i64 p)) (c10 : w.cell? ⟨b1, 0, none⟩ = some (.int .i64 ax)) (c11 : w.cell? ⟨b1, 1, none⟩ = some (.int .i64 ay)) (c20 : w.cell? ⟨b2, 0, none⟩ = some (.int .i64 bx)) (c21 : w.cell? ⟨b2, 1, none⟩ = some (.int .i64 by_)) :
    Calls Tryz.prog 81 #[.pointer (some ⟨b0, 0, none⟩), .pointer (some ⟨b1, 0, none⟩), .pointer (some ⟨b2, 0, none⟩)] w fun e w' => e = .returned (.bool (Pl.ptsB p [(ax, ay), (bx, by_)])) ∧ Below w.heap.size w w' := by
  go_enter Tryz.func81, Tryz.ntmps81
  go_wp2_with fail
  refine (arePoints_any p _ 0 2 2 [(ax, ay), (bx, by_)] rfl (by omega) _ (by simp) ?_).mono ?_
  · intro j hj
    match j, hj with
    | 0, _ => exact ⟨by go_simp, by go_simp⟩
    | 1, _ => exact ⟨by go_simp, by go_simp⟩
  · rintro e w' ⟨rfl, hb⟩
    go_wp2_with fail
    go_ret
    exact ⟨rfl, below_of (by go_grown) hb (by simp <;> omega)⟩
theorem MidpointOf_any (p ax ay bx by_ : Int) (w : World) :
    Calls Tryz.prog 32 #[.int .i64 p, .agg #[.int .i64 ax, .int .i64 ay], .agg #[.int .i64 bx, .int .i64 by_]] w fun e w' => e = .returned (.tuple #[.agg #[.int .i64 ((Pl.midOf p ax ay bx by_).1.1), .int .i64 ((Pl.midOf p ax ay bx by_).1.2)], .int .i64 ((Pl.midOf p ax ay bx by_).2)]) ∧ Below w.heap.size w w' := by
  by_cases h0 : Pl.ask p (Pl.ptsB p [(ax, ay), (bx, by_)]) = 0
  · have hfin : Hid (Pl.midOf p ax ay bx by_ = ((Pl.comb p ax bx (Pl.inv p 2), Pl.comb p ay by_ (Pl.inv p 2)), 0)) := by unfold Hid Pl.midOf; rw [if_pos h0]
    have hv : Hid (Pl.fieldB p = true ∧ (Pl.ptsB p [(ax, ay), (bx, by_)]) = true) := Pl.ask_ok h0
    have hp := Pl.field_bd hv.out.1
    obtain ⟨hp1, hp2⟩ := hp
    obtain ⟨⟨ax1, ax2, ay1, ay2⟩, bx1, bx2, by_1, by_2⟩ := Pl.pts2_bd hv.out.2
    have hf := hv.out.1
    go_enter Tryz.func32, Tryz.ntmps32
    go_wp2_with fail
    refine (asked_any p _ _ (Pl.ptsB p [(ax, ay), (bx, by_)]) _ (by kernel_rfl) ?_).mono ?_
    · intro _
      exact MidpointOf1_any p ax ay bx by_ _ _ _ _ (by go_simp) (by go_simp) (by go_simp) (by go_simp) (by go_simp)
    · rintro e w1 ⟨rfl, hb⟩
      have c00 : w1.cell? ⟨w.heap.size, 0, none⟩ = some (.int .i64 p) := cellOf hb (by go_simp) (by simp <;> omega)
      have c10 : w1.cell? ⟨w.heap.size + 1, 0, none⟩ = some (.int .i64 ax) := cellOf hb (by go_simp) (by simp <;> omega)
      have c11 : w1.cell? ⟨w.heap.size + 1, 1, none⟩ = some (.int .i64 ay) := cellOf hb (by go_simp) (by simp <;> omega)
      have c20 : w1.cell? ⟨w.heap.size + 2, 0, none⟩ = some (.int .i64 bx) := cellOf hb (by go_simp) (by simp <;> omega)
      have c21 : w1.cell? ⟨w.heap.size + 2, 1, none⟩ = some (.int .i64 by_) := cellOf hb (by go_simp) (by simp <;> omega)
      have z0 : w1.cell? ⟨w.heap.size + 1 + 1 + 1, 0, none⟩ = some (.int .i64 0) := cellOf hb (by go_simp) (by simp <;> omega)
      have y0 : w1.frozen? ⟨w.heap.size + 1 + 1 + 1, 0, none⟩ = false := frozenOf hb (by go_simp) (by simp <;> omega)
      have z1 : w1.cell? ⟨w.heap.size + 1 + 1 + 1, 1, none⟩ = some (.int .i64 0) := cellOf hb (by go_simp) (by simp <;> omega)
      have y1 : w1.frozen? ⟨w.heap.size + 1 + 1 + 1, 1, none⟩ = false := frozenOf hb (by go_simp) (by simp <;> omega)
      have hz : w.heap.size + 3 ≤ w1.heap.size := by have := hb.size; simp at this; omega
      have hB : Below w.heap.size w w1 := below_of (by go_grown) hb (by simp <;> omega)
      clear hb
      go_wp2_with (go_at_call 82; refine (midpoint_any _ _ _ _ _ _ hf (by omega) (by omega) (by omega) (by omega) (by omega) (by omega) (by omega) (by omega)).mono ?_; rintro e w' ⟨rfl, hbn⟩; replace c00 := keepC hbn (by first | exact c00 | exact keepA _ c00 | exact keepA _ (keepA _ c00)); replace c10 := keepC hbn (by first | exact c10 | exact keepA _ c10 | exact keepA _ (keepA _ c10)); replace c11 := keepC hbn (by first | exact c11 | exact keepA _ c11 | exact keepA _ (keepA _ c11)); replace c20 := keepC hbn (by first | exact c20 | exact keepA _ c20 | exact keepA _ (keepA _ c20)); replace c21 := keepC hbn (by first | exact c21 | exact keepA _ c21 | exact keepA _ (keepA _ c21)); replace y0 := keepF hbn z0 y0; replace y1 := keepF hbn z1 y1; replace z0 := keepC hbn z0; replace z1 := keepC hbn z1; replace hB := below_of (B := w.heap.size) (a := w) (by first | exact hB | (have := hB.size; go_grown)) hbn (by first | exact hB.size | (have := hB.size; simp <;> omega)); clear hbn)
      try simp only [Exit.inBlock, Exit.then]
      refine bodyPost_ret (by simp [results, Tryz.results32, go_sem, y0, y1, z0, z1]; try rfl) rfl ?_
      exact ⟨ret_pi (by rw [hfin.out]) (by rw [hfin.out]) (by rw [hfin.out]), by go_grown⟩
  · have hne : (Pl.ask p (Pl.ptsB p [(ax, ay), (bx, by_)]) != 0) = true := by simpa using h0
    have hfin : Hid (Pl.midOf p ax ay bx by_ = ((0, 0), Pl.ask p (Pl.ptsB p [(ax, ay), (bx, by_)]))) := by unfold Hid Pl.midOf; rw [if_neg h0]
    clear h0
    go_enter Tryz.func32, Tryz.ntmps32
    go_wp2_with fail
    refine (asked_any p _ _ (Pl.ptsB p [(ax, ay), (bx, by_)]) _ (by kernel_rfl) ?_).mono ?_
    · intro _
      exact MidpointOf1_any p ax ay bx by_ _ _ _ _ (by go_simp) (by go_simp) (by go_simp) (by go_simp) (by go_simp)
    · rintro e w1 ⟨rfl, hb⟩
      have z0 : w1.cell? ⟨w.heap.size + 1 + 1 + 1, 0, none⟩ = some (.int .i64 0) := cellOf hb (by go_simp) (by simp <;> omega)
      have y0 : w1.frozen? ⟨w.heap.size + 1 + 1 + 1, 0, none⟩ = false := frozenOf hb (by go_simp) (by simp <;> omega)
      have z1 : w1.cell? ⟨w.heap.size + 1 + 1 + 1, 1, none⟩ = some (.int .i64 0) := cellOf hb (by go_simp) (by simp <;> omega)
      have y1 : w1.frozen? ⟨w.heap.size + 1 + 1 + 1, 1, none⟩ = false := frozenOf hb (by go_simp) (by simp <;> omega)
      have hB : Below w.heap.size w w1 := below_of (by go_grown) hb (by simp <;> omega)
      clear hb
      go_wp2_with fail
      try simp only [Exit.inBlock, Exit.then]
      refine bodyPost_ret (by simp [results, Tryz.results32, go_sem, y0, y1, z0, z1]; try rfl) rfl ?_
      exact ⟨ret_pi (by rw [hfin.out]) (by rw [hfin.out]) (by rw [hfin.out]), by go_grown⟩
theorem sMidpointOf_any (p ax ay bx by_ : Int) (w : World) :
    Calls Tryz.prog 33 #[.int .i64 p, .agg #[.int .i64 ax, .int .i64 ay], .agg #[.int .i64 bx, .int .i64 by_]] w fun e w' => e = .returned (.tuple #[.agg #[.int .i64 ((Pl.midOf p ax ay bx by_).1.1), .int .i64 ((Pl.midOf p ax ay bx by_).1.2)], .int .i64 ((Pl.midOf p ax ay bx by_).2)]) ∧ Below w.heap.size w w' := by
  by_cases h0 : Pl.ask p (Pl.ptsB p [(ax, ay), (bx, by_)]) = 0
  · have hfin : Hid (Pl.midOf p ax ay bx by_ = ((Pl.comb p ax bx (Pl.inv p 2), Pl.comb p ay by_ (Pl.inv p 2)), 0)) := by unfold Hid Pl.midOf; rw [if_pos h0]
    have hv : Hid (Pl.fieldB p = true ∧ (Pl.ptsB p [(ax, ay), (bx, by_)]) = true) := Pl.ask_ok h0
    have hp := Pl.field_bd hv.out.1
    obtain ⟨hp1, hp2⟩ := hp
    obtain ⟨⟨ax1, ax2, ay1, ay2⟩, bx1, bx2, by_1, by_2⟩ := Pl.pts2_bd hv.out.2
    have hf := hv.out.1
    go_enter Tryz.func33, Tryz.ntmps33
    go_wp2_with fail
    refine (l01Code_any p _ 0 2 2 [(ax, ay), (bx, by_)] rfl (by omega) _ (by simp) ?_).mono ?_
    · intro j hj
      match j, hj with
      | 0, _ => exact ⟨by go_simp, by go_simp⟩
      | 1, _ => exact ⟨by go_simp, by go_simp⟩
    · rintro e w1 ⟨rfl, hb⟩
      have c00 : w1.cell? ⟨w.heap.size, 0, none⟩ = some (.int .i64 ax) := keepC hb (by go_simp)
      have c01 : w1.cell? ⟨w.heap.size, 1, none⟩ = some (.int .i64 ay) := keepC hb (by go_simp)
      have c10 : w1.cell? ⟨w.heap.size + 1, 0, none⟩ = some (.int .i64 bx) := keepC hb (by go_simp)
      have c11 : w1.cell? ⟨w.heap.size + 1, 1, none⟩ = some (.int .i64 by_) := keepC hb (by go_simp)
      have z0 : w1.cell? ⟨w.heap.size + 1 + 1, 0, none⟩ = some (.int .i64 0) := cellOf hb (by go_simp) (by simp <;> omega)
      have y0 : w1.frozen? ⟨w.heap.size + 1 + 1, 0, none⟩ = false := frozenOf hb (by go_simp) (by simp <;> omega)
      have z1 : w1.cell? ⟨w.heap.size + 1 + 1, 1, none⟩ = some (.int .i64 0) := cellOf hb (by go_simp) (by simp <;> omega)
      have y1 : w1.frozen? ⟨w.heap.size + 1 + 1, 1, none⟩ = false := frozenOf hb (by go_simp) (by simp <;> omega)
      have hB : Below w.heap.size w w1 := below_of (by go_grown) hb (by simp <;> omega)
      clear hb
      go_wp2_with (go_at_call 83; refine (l01Middle_any _ _ _ _ _ _ hf (by omega) (by omega) (by omega) (by omega) (by omega) (by omega) (by omega) (by omega)).mono ?_; rintro e w' ⟨rfl, hbn⟩; replace c00 := keepC hbn (by first | exact c00 | exact keepA _ c00 | exact keepA _ (keepA _ c00)); replace c01 := keepC hbn (by first | exact c01 | exact keepA _ c01 | exact keepA _ (keepA _ c01)); replace c10 := keepC hbn (by first | exact c10 | exact keepA _ c10 | exact keepA _ (keepA _ c10)); replace c11 := keepC hbn (by first | exact c11 | exact keepA _ c11 | exact keepA _ (keepA _ c11)); replace y0 := keepF hbn z0 y0; replace y1 := keepF hbn z1 y1; replace z0 := keepC hbn z0; replace z1 := keepC hbn z1; replace hB := below_of (B := w.heap.size) (a := w) (by first | exact hB | (have := hB.size; go_grown)) hbn (by first | exact hB.size | (have := hB.size; simp <;> omega)); clear hbn)
      try simp only [Exit.inBlock, Exit.then]
      refine bodyPost_ret (by simp [results, Tryz.results33, go_sem, y0, y1, z0, z1]; try rfl) rfl ?_
      exact ⟨ret_pi (by rw [hfin.out]) (by rw [hfin.out]) (by rw [hfin.out]), by go_grown⟩
  · have hne : (Pl.ask p (Pl.ptsB p [(ax, ay), (bx, by_)]) != 0) = true := by simpa using h0
    have hfin : Hid (Pl.midOf p ax ay bx by_ = ((0, 0), Pl.ask p (Pl.ptsB p [(ax, ay), (bx, by_)]))) := by unfold Hid Pl.midOf; rw [if_neg h0]
    clear h0
    go_enter Tryz.func33, Tryz.ntmps33
    go_wp2_with fail
    refine (l01Code_any p _ 0 2 2 [(ax, ay), (bx, by_)] rfl (by omega) _ (by simp) ?_).mono ?_
    · intro j hj
      match j, hj with
      | 0, _ => exact ⟨by go_simp, by go_simp⟩
      | 1, _ => exact ⟨by go_simp, by go_simp⟩
    · rintro e w1 ⟨rfl, hb⟩
      have z0 : w1.cell? ⟨w.heap.size + 1 + 1, 0, none⟩ = some (.int .i64 0) := cellOf hb (by go_simp) (by simp <;> omega)
      have y0 : w1.frozen? ⟨w.heap.size + 1 + 1, 0, none⟩ = false := frozenOf hb (by go_simp) (by simp <;> omega)
      have z1 : w1.cell? ⟨w.heap.size + 1 + 1, 1, none⟩ = some (.int .i64 0) := cellOf hb (by go_simp) (by simp <;> omega)
      have y1 : w1.frozen? ⟨w.heap.size + 1 + 1, 1, none⟩ = false := frozenOf hb (by go_simp) (by simp <;> omega)
      have hB : Below w.heap.size w w1 := below_of (by go_grown) hb (by simp <;> omega)
      clear hb
      go_wp2_with fail
      try simp only [Exit.inBlock, Exit.then]
      refine bodyPost_ret (by simp [results, Tryz.results33, go_sem, y0, y1, z0, z1]; try rfl) rfl ?_
      exact ⟨ret_pi (by rw [hfin.out]) (by rw [hfin.out]) (by rw [hfin.out]), by go_grown⟩
theorem ParallelThrough1_any (p la lb lc ax ay : Int) (b0 b1 b2 : Nat) (w : World) (c00 : w.cell? ⟨b0, 0, none⟩ = some (.int .i64 p)) (c10 : w.cell? ⟨b1, 0, none⟩ = some (.int .i64 la)) (c11 : w.cell? ⟨b1, 1, none⟩ = some (.int .i64 lb)) (c12 : w.cell? ⟨b1, 2, none⟩ = some (.int .i64 lc)) (c20 : w.cell? ⟨b2, 0, none⟩ = some (.int .i64 ax)) (c21 : w.cell? ⟨b2, 1, none⟩ = some (.int .i64 ay)) :
    Calls Tryz.prog 63 #[.pointer (some ⟨b0, 0, none⟩), .pointer (some ⟨b1, 0, none⟩), .pointer (some ⟨b2, 0, none⟩)] w fun e w' => e = .returned (.bool (Pl.ptB p ax ay && Pl.lineB p la lb lc)) ∧ Below w.heap.size w w' := by
  rw [Bool.and_comm]
  cases h1 : Pl.lineB p la lb lc with
  | false =>
    have hB := Below.refl w.heap.size w
    go_enter Tryz.func63, Tryz.ntmps63
    go_wp2_with (first | (go_at_call 46; refine (isPoint_any _ _ _ _).mono ?_; rintro e w' ⟨rfl, hbn⟩; replace c00 := keepC hbn c00; replace c10 := keepC hbn c10; replace c11 := keepC hbn c11; replace c12 := keepC hbn c12; replace c20 := keepC hbn c20; replace c21 := keepC hbn c21; replace hB := below_of hB hbn hB.size; clear hbn) | (go_at_call 47; refine (isLine_any _ _ _ _ _).mono ?_; rintro e w' ⟨rfl, hbn⟩; replace c00 := keepC hbn c00; replace c10 := keepC hbn c10; replace c11 := keepC hbn c11; replace c12 := keepC hbn c12; replace c20 := keepC hbn c20; replace c21 := keepC hbn c21; replace hB := below_of hB hbn hB.size; clear hbn))
    go_ret
    exact ⟨rfl, hB⟩
  | true =>
    have hB := Below.refl w.heap.size w
    go_enter Tryz.func63, Tryz.ntmps63
    go_wp2_with (first | (go_at_call 46; refine (isPoint_any _ _ _ _).mono ?_; rintro e w' ⟨rfl, hbn⟩; replace c00 := keepC hbn c00; replace c10 := keepC hbn c10; replace c11 := keepC hbn c11; replace c12 := keepC hbn c12; replace c20 := keepC hbn c20; replace c21 := keepC hbn c21; replace hB := below_of hB hbn hB.size; clear hbn) | (go_at_call 47; refine (isLine_any _ _ _ _ _).mono ?_; rintro e w' ⟨rfl, hbn⟩; replace c00 := keepC hbn c00; replace c10 := keepC hbn c10; replace c11 := keepC hbn c11; replace c12 := keepC hbn c12; replace c20 := keepC hbn c20; replace c21 := keepC hbn c21; replace hB := below_of hB hbn hB.size; clear hbn))
    go_ret
    exact ⟨rfl, hB⟩
theorem ParallelThrough_any (p la lb lc ax ay : Int) (w : World) :
    Calls Tryz.prog 17 #[.int .i64 p, .agg #[.int .i64 la, .int .i64 lb, .int .i64 lc], .agg #[.int .i64 ax, .int .i64 ay]] w fun e w' => e = .returned (.tuple #[.agg #[.int .i64 ((Pl.parThOf p la lb lc ax ay).1.1), .int .i64 ((Pl.parThOf p la lb lc ax ay).1.2.1), .int .i64 ((Pl.parThOf p la lb lc ax ay).1.2.2)], .int .i64 ((Pl.parThOf p la lb lc ax ay).2)]) ∧ Below w.heap.size w w' := by
  by_cases h0 : Pl.ask p (Pl.ptB p ax ay && Pl.lineB p la lb lc) = 0
  · have hfin : Hid (Pl.parThOf p la lb lc ax ay = ((la, lb, (-(la * ax + lb * ay)) % p), 0)) := by unfold Hid Pl.parThOf; rw [if_pos h0]
    have hv : Hid (Pl.fieldB p = true ∧ (Pl.ptB p ax ay && Pl.lineB p la lb lc) = true) := Pl.ask_ok h0
    have hp := Pl.field_bd hv.out.1
    obtain ⟨hp1, hp2⟩ := hp
    have hv2 := hv.out.2
    simp only [Bool.and_eq_true] at hv2
    obtain ⟨ax1, ax2, ay1, ay2⟩ := Pl.ptB_bd hv2.1
    obtain ⟨la1, la2, lb1, lb2, lc1, lc2, hl⟩ := Pl.lineB_bd hv2.2
    have HL := hid hl
    clear hl hv2
    have hf := hv.out.1
    have hm := Pl.mulB (show 0 ≤ la by omega) (show la ≤ 31 by omega) (show 0 ≤ ax by omega) (show ax ≤ 31 by omega)
    have hm2 := Pl.mulB (show 0 ≤ lb by omega) (show lb ≤ 31 by omega) (show 0 ≤ ay by omega) (show ay ≤ 31 by omega)
    obtain ⟨hm11, hm12⟩ := hm
    obtain ⟨hm21, hm22⟩ := hm2
    go_enter Tryz.func17, Tryz.ntmps17
    go_wp2_with fail
    refine (asked_any p _ _ (Pl.ptB p ax ay && Pl.lineB p la lb lc) _ (by kernel_rfl) ?_).mono ?_
    · intro _
      exact ParallelThrough1_any p la lb lc ax ay _ _ _ _ (by go_simp) (by go_simp) (by go_simp) (by go_simp) (by go_simp) (by go_simp)
    · rintro e w1 ⟨rfl, hb⟩
      have c00 : w1.cell? ⟨w.heap.size, 0, none⟩ = some (.int .i64 p) := cellOf hb (by go_simp) (by simp <;> omega)
      have c10 : w1.cell? ⟨w.heap.size + 1, 0, none⟩ = some (.int .i64 la) := cellOf hb (by go_simp) (by simp <;> omega)
      have c11 : w1.cell? ⟨w.heap.size + 1, 1, none⟩ = some (.int .i64 lb) := cellOf hb (by go_simp) (by simp <;> omega)
      have c12 : w1.cell? ⟨w.heap.size + 1, 2, none⟩ = some (.int .i64 lc) := cellOf hb (by go_simp) (by simp <;> omega)
      have c20 : w1.cell? ⟨w.heap.size + 2, 0, none⟩ = some (.int .i64 ax) := cellOf hb (by go_simp) (by simp <;> omega)
      have c21 : w1.cell? ⟨w.heap.size + 2, 1, none⟩ = some (.int .i64 ay) := cellOf hb (by go_simp) (by simp <;> omega)
      have z0 : w1.cell? ⟨w.heap.size + 1 + 1 + 1, 0, none⟩ = some (.int .i64 0) := cellOf hb (by go_simp) (by simp <;> omega)
      have y0 : w1.frozen? ⟨w.heap.size + 1 + 1 + 1, 0, none⟩ = false := frozenOf hb (by go_simp) (by simp <;> omega)
      have z1 : w1.cell? ⟨w.heap.size + 1 + 1 + 1, 1, none⟩ = some (.int .i64 0) := cellOf hb (by go_simp) (by simp <;> omega)
      have y1 : w1.frozen? ⟨w.heap.size + 1 + 1 + 1, 1, none⟩ = false := frozenOf hb (by go_simp) (by simp <;> omega)
      have z2 : w1.cell? ⟨w.heap.size + 1 + 1 + 1, 2, none⟩ = some (.int .i64 0) := cellOf hb (by go_simp) (by simp <;> omega)
      have y2 : w1.frozen? ⟨w.heap.size + 1 + 1 + 1, 2, none⟩ = false := frozenOf hb (by go_simp) (by simp <;> omega)
      have hz : w.heap.size + 3 ≤ w1.heap.size := by have := hb.size; simp at this; omega
      have hB : Below w.heap.size w w1 := below_of (by go_grown) hb (by simp <;> omega)
      clear hb
      go_wp2_with (go_at_call 64; refine (makeLine_any _ _ _ _ _ hf (by omega) (by omega) (by omega) (by omega) (by omega) (by omega)).mono ?_; rintro e w' ⟨rfl, hbn⟩; replace y0 := keepF hbn z0 y0; replace y1 := keepF hbn z1 y1; replace y2 := keepF hbn z2 y2; replace z0 := keepC hbn z0; replace z1 := keepC hbn z1; replace z2 := keepC hbn z2; replace hB := below_of (B := w.heap.size) (a := w) (by first | exact hB | (have := hB.size; go_grown)) hbn (by first | exact hB.size | (have := hB.size; simp <;> omega)); clear hbn)
      try simp only [Exit.inBlock, Exit.then]
      refine bodyPost_ret (by simp [results, Tryz.results17, go_sem, y0, y1, y2, z0, z1, z2]; try rfl) rfl ?_
      exact ⟨ret_li (by rw [hfin.out, Pl.nrm_line hf HL.out, Pl.small la1 la2]) (by rw [hfin.out, Pl.nrm_line hf HL.out, Pl.small lb1 lb2]) (by rw [hfin.out, Pl.nrm_line hf HL.out]) (by rw [hfin.out]), by go_grown⟩
  · have hne : (Pl.ask p (Pl.ptB p ax ay && Pl.lineB p la lb lc) != 0) = true := by simpa using h0
    have hfin : Hid (Pl.parThOf p la lb lc ax ay = ((0, 0, 0), Pl.ask p (Pl.ptB p ax ay && Pl.lineB p la lb lc))) := by unfold Hid Pl.parThOf; rw [if_neg h0]
    clear h0
    go_enter Tryz.func17, Tryz.ntmps17
    go_wp2_with fail
    refine (asked_any p _ _ (Pl.ptB p ax ay && Pl.lineB p la lb lc) _ (by kernel_rfl) ?_).mono ?_
    · intro _
      exact ParallelThrough1_any p la lb lc ax ay _ _ _ _ (by go_simp) (by go_simp) (by go_simp) (by go_simp) (by go_simp) (by go_simp)
    · rintro e w1 ⟨rfl, hb⟩
      have z0 : w1.cell? ⟨w.heap.size + 1 + 1 + 1, 0, none⟩ = some (.int .i64 0) := cellOf hb (by go_simp) (by simp <;> omega)
      have y0 : w1.frozen? ⟨w.heap.size + 1 + 1 + 1, 0, none⟩ = false := frozenOf hb (by go_simp) (by simp <;> omega)
      have z1 : w1.cell? ⟨w.heap.size + 1 + 1 + 1, 1, none⟩ = some (.int .i64 0) := cellOf hb (by go_simp) (by simp <;> omega)
      have y1 : w1.frozen? ⟨w.heap.size + 1 + 1 + 1, 1, none⟩ = false := frozenOf hb (by go_simp) (by simp <;> omega)
      have z2 : w1.cell? ⟨w.heap.size + 1 + 1 + 1, 2, none⟩ = some (.int .i64 0) := cellOf hb (by go_simp) (by simp <;> omega)
      have y2 : w1.frozen? ⟨w.heap.size + 1 + 1 + 1, 2, none⟩ = false := frozenOf hb (by go_simp) (by simp <;> omega)
      have hB : Below w.heap.size w w1 := below_of (by go_grown) hb (by simp <;> omega)
      clear hb
      go_wp2_with fail
      try simp only [Exit.inBlock, Exit.then]
      refine bodyPost_ret (by simp [results, Tryz.results17, go_sem, y0, y1, y2, z0, z1, z2]; try rfl) rfl ?_
      exact ⟨ret_li (by rw [hfin.out]) (by rw [hfin.out]) (by rw [hfin.out]) (by rw [hfin.out]), by go_grown⟩
theorem sParallelThrough_any (p la lb lc ax ay : Int) (w : World) :
    Calls Tryz.prog 18 #[.int .i64 p, .agg #[.int .i64 la, .int .i64 lb, .int .i64 lc], .agg #[.int .i64 ax, .int .i64 ay]] w fun e w' => e = .returned (.tuple #[.agg #[.int .i64 ((Pl.parThOf p la lb lc ax ay).1.1), .int .i64 ((Pl.parThOf p la lb lc ax ay).1.2.1), .int .i64 ((Pl.parThOf p la lb lc ax ay).1.2.2)], .int .i64 ((Pl.parThOf p la lb lc ax ay).2)]) ∧ Below w.heap.size w w' := by
  by_cases h0 : Pl.ask p (Pl.ptB p ax ay && Pl.lineB p la lb lc) = 0
  · have hfin : Hid (Pl.parThOf p la lb lc ax ay = ((la, lb, (-(la * ax + lb * ay)) % p), 0)) := by unfold Hid Pl.parThOf; rw [if_pos h0]
    have hv : Hid (Pl.fieldB p = true ∧ (Pl.ptB p ax ay && Pl.lineB p la lb lc) = true) := Pl.ask_ok h0
    have hp := Pl.field_bd hv.out.1
    obtain ⟨hp1, hp2⟩ := hp
    have hv2 := hv.out.2
    simp only [Bool.and_eq_true] at hv2
    obtain ⟨ax1, ax2, ay1, ay2⟩ := Pl.ptB_bd hv2.1
    obtain ⟨la1, la2, lb1, lb2, lc1, lc2, hl⟩ := Pl.lineB_bd hv2.2
    have HL := hid hl
    clear hl hv2
    have hf := hv.out.1
    go_enter Tryz.func18, Tryz.ntmps18
    go_wp2_with fail
    refine (l01Both_any _ _ _ _ _ _ _).mono ?_
    · rintro e w1 ⟨rfl, hb⟩
      have c00 : w1.cell? ⟨w.heap.size, 0, none⟩ = some (.int .i64 la) := keepC hb (by go_simp)
      have c01 : w1.cell? ⟨w.heap.size, 1, none⟩ = some (.int .i64 lb) := keepC hb (by go_simp)
      have c02 : w1.cell? ⟨w.heap.size, 2, none⟩ = some (.int .i64 lc) := keepC hb (by go_simp)
      have c10 : w1.cell? ⟨w.heap.size + 1, 0, none⟩ = some (.int .i64 ax) := keepC hb (by go_simp)
      have c11 : w1.cell? ⟨w.heap.size + 1, 1, none⟩ = some (.int .i64 ay) := keepC hb (by go_simp)
      have z0 : w1.cell? ⟨w.heap.size + 1 + 1, 0, none⟩ = some (.int .i64 0) := cellOf hb (by go_simp) (by simp <;> omega)
      have y0 : w1.frozen? ⟨w.heap.size + 1 + 1, 0, none⟩ = false := frozenOf hb (by go_simp) (by simp <;> omega)
      have z1 : w1.cell? ⟨w.heap.size + 1 + 1, 1, none⟩ = some (.int .i64 0) := cellOf hb (by go_simp) (by simp <;> omega)
      have y1 : w1.frozen? ⟨w.heap.size + 1 + 1, 1, none⟩ = false := frozenOf hb (by go_simp) (by simp <;> omega)
      have z2 : w1.cell? ⟨w.heap.size + 1 + 1, 2, none⟩ = some (.int .i64 0) := cellOf hb (by go_simp) (by simp <;> omega)
      have y2 : w1.frozen? ⟨w.heap.size + 1 + 1, 2, none⟩ = false := frozenOf hb (by go_simp) (by simp <;> omega)
      have hB : Below w.heap.size w w1 := below_of (by go_grown) hb (by simp <;> omega)
      clear hb
      go_wp2_with (go_at_call 66; refine (l01Parallel_any _ _ _ _ _ _ _ (by omega) (by omega) (by omega) (by omega) (by omega) (by omega) (by omega) (by omega) (by omega) (by omega) (by omega) (by omega)).mono ?_; rintro e w' ⟨rfl, hbn⟩; replace c00 := keepC hbn (by first | exact c00 | exact keepA _ c00 | exact keepA _ (keepA _ c00)); replace c01 := keepC hbn (by first | exact c01 | exact keepA _ c01 | exact keepA _ (keepA _ c01)); replace c02 := keepC hbn (by first | exact c02 | exact keepA _ c02 | exact keepA _ (keepA _ c02)); replace c10 := keepC hbn (by first | exact c10 | exact keepA _ c10 | exact keepA _ (keepA _ c10)); replace c11 := keepC hbn (by first | exact c11 | exact keepA _ c11 | exact keepA _ (keepA _ c11)); replace y0 := keepF hbn z0 y0; replace y1 := keepF hbn z1 y1; replace y2 := keepF hbn z2 y2; replace z0 := keepC hbn z0; replace z1 := keepC hbn z1; replace z2 := keepC hbn z2; replace hB := below_of (B := w.heap.size) (a := w) (by first | exact hB | (have := hB.size; go_grown)) hbn (by first | exact hB.size | (have := hB.size; simp <;> omega)); clear hbn)
      try simp only [Exit.inBlock, Exit.then]
      refine bodyPost_ret (by simp [results, Tryz.results18, go_sem, y0, y1, y2, z0, z1, z2]; try rfl) rfl ?_
      exact ⟨ret_li (by rw [hfin.out]) (by rw [hfin.out]) (by rw [hfin.out]) (by rw [hfin.out]), by go_grown⟩
  · have hne : (Pl.ask p (Pl.ptB p ax ay && Pl.lineB p la lb lc) != 0) = true := by simpa using h0
    have hfin : Hid (Pl.parThOf p la lb lc ax ay = ((0, 0, 0), Pl.ask p (Pl.ptB p ax ay && Pl.lineB p la lb lc))) := by unfold Hid Pl.parThOf; rw [if_neg h0]
    clear h0
    go_enter Tryz.func18, Tryz.ntmps18
    go_wp2_with fail
    refine (l01Both_any _ _ _ _ _ _ _).mono ?_
    · rintro e w1 ⟨rfl, hb⟩
      have z0 : w1.cell? ⟨w.heap.size + 1 + 1, 0, none⟩ = some (.int .i64 0) := cellOf hb (by go_simp) (by simp <;> omega)
      have y0 : w1.frozen? ⟨w.heap.size + 1 + 1, 0, none⟩ = false := frozenOf hb (by go_simp) (by simp <;> omega)
      have z1 : w1.cell? ⟨w.heap.size + 1 + 1, 1, none⟩ = some (.int .i64 0) := cellOf hb (by go_simp) (by simp <;> omega)
      have y1 : w1.frozen? ⟨w.heap.size + 1 + 1, 1, none⟩ = false := frozenOf hb (by go_simp) (by simp <;> omega)
      have z2 : w1.cell? ⟨w.heap.size + 1 + 1, 2, none⟩ = some (.int .i64 0) := cellOf hb (by go_simp) (by simp <;> omega)
      have y2 : w1.frozen? ⟨w.heap.size + 1 + 1, 2, none⟩ = false := frozenOf hb (by go_simp) (by simp <;> omega)
      have hB : Below w.heap.size w w1 := below_of (by go_grown) hb (by simp <;> omega)
      clear hb
      go_wp2_with fail
      try simp only [Exit.inBlock, Exit.then]
      refine bodyPost_ret (by simp [results, Tryz.results18, go_sem, y0, y1, y2, z0, z1, z2]; try rfl) rfl ?_
      exact ⟨ret_li (by rw [hfin.out]) (by rw [hfin.out]) (by rw [hfin.out]) (by rw [hfin.out]), by go_grown⟩
theorem LineOf1_any (p a b c : Int) (b0 b1 b2 b3 : Nat) (w : World) (c00 : w.cell? ⟨b0, 0, none⟩ = some (.int .i64 p)) (c10 : w.cell? ⟨b1, 0, none⟩ = some (.int .i64 a)) (c20 : w.cell? ⟨b2, 0, none⟩ = some (.int .i64 b)) (c30 : w.cell? ⟨b3, 0, none⟩ = some (.int .i64 c)) :
    Calls Tryz.prog 72 #[.pointer (some ⟨b0, 0, none⟩), .pointer (some ⟨b1, 0, none⟩), .pointer (some ⟨b2, 0, none⟩), .pointer (some ⟨b3, 0, none⟩)] w fun e w' => e = .returned (.bool (Pl.numB p a && Pl.numB p b && Pl.numB p c)) ∧ Below w.heap.size w w' := by
  go_enter Tryz.func72, Tryz.ntmps72
  go_wp2_with fail
  refine (areNumbers_any p _ 0 3 3 [a, b, c] rfl (by omega) _ ?_).mono ?_
  · intro j hj
    match j, hj with
    | 0, _ => go_simp
    | 1, _ => go_simp
    | 2, _ => go_simp
  · rintro e w' ⟨rfl, rfl⟩
    rw [Pl.nums3]
    go_wp2_with fail
    go_ret
    exact ⟨rfl, by go_grown⟩
theorem LineOf_any (p a b c : Int) (w : World) :
    Calls Tryz.prog 20 #[.int .i64 p, .int .i64 a, .int .i64 b, .int .i64 c] w fun e w' => e = .returned (.tuple #[.agg #[.int .i64 ((Pl.lineOf p a b c).1.1), .int .i64 ((Pl.lineOf p a b c).1.2.1), .int .i64 ((Pl.lineOf p a b c).1.2.2)], .int .i64 ((Pl.lineOf p a b c).2)]) ∧ Below w.heap.size w w' := by
  by_cases h0 : Pl.ask p (Pl.numB p a && Pl.numB p b && Pl.numB p c) = 0
  · have hfin : Hid (Pl.lineOf p a b c = (if a = 0 ∧ b = 0 then ((0, 0, 0), 5) else ((Pl.nrm p a b a, Pl.nrm p a b b, Pl.nrm p a b c), 0))) := by unfold Hid Pl.lineOf; rw [if_pos h0]
    have hv : Hid (Pl.fieldB p = true ∧ (Pl.numB p a && Pl.numB p b && Pl.numB p c) = true) := Pl.ask_ok h0
    have hp := Pl.field_bd hv.out.1
    obtain ⟨hp1, hp2⟩ := hp
    obtain ⟨⟨a1, a2⟩, ⟨b1, b2⟩, c1, c2⟩ := Pl.num3 hv.out.2
    have hf := hv.out.1
    go_enter Tryz.func20, Tryz.ntmps20
    go_wp2_with fail
    refine (asked_any p _ _ (Pl.numB p a && Pl.numB p b && Pl.numB p c) _ (by kernel_rfl) ?_).mono ?_
    · intro _
      exact LineOf1_any p a b c _ _ _ _ _ (by go_simp) (by go_simp) (by go_simp) (by go_simp)
    · rintro e w1 ⟨rfl, hb⟩
      have c00 : w1.cell? ⟨w.heap.size, 0, none⟩ = some (.int .i64 p) := cellOf hb (by go_simp) (by simp <;> omega)
      have c10 : w1.cell? ⟨w.heap.size + 1, 0, none⟩ = some (.int .i64 a) := cellOf hb (by go_simp) (by simp <;> omega)
      have c20 : w1.cell? ⟨w.heap.size + 2, 0, none⟩ = some (.int .i64 b) := cellOf hb (by go_simp) (by simp <;> omega)
      have c30 : w1.cell? ⟨w.heap.size + 3, 0, none⟩ = some (.int .i64 c) := cellOf hb (by go_simp) (by simp <;> omega)
      have z0 : w1.cell? ⟨w.heap.size + 1 + 1 + 1 + 1, 0, none⟩ = some (.int .i64 0) := cellOf hb (by go_simp) (by simp <;> omega)
      have y0 : w1.frozen? ⟨w.heap.size + 1 + 1 + 1 + 1, 0, none⟩ = false := frozenOf hb (by go_simp) (by simp <;> omega)
      have z1 : w1.cell? ⟨w.heap.size + 1 + 1 + 1 + 1, 1, none⟩ = some (.int .i64 0) := cellOf hb (by go_simp) (by simp <;> omega)
      have y1 : w1.frozen? ⟨w.heap.size + 1 + 1 + 1 + 1, 1, none⟩ = false := frozenOf hb (by go_simp) (by simp <;> omega)
      have z2 : w1.cell? ⟨w.heap.size + 1 + 1 + 1 + 1, 2, none⟩ = some (.int .i64 0) := cellOf hb (by go_simp) (by simp <;> omega)
      have y2 : w1.frozen? ⟨w.heap.size + 1 + 1 + 1 + 1, 2, none⟩ = false := frozenOf hb (by go_simp) (by simp <;> omega)
      have hz : w.heap.size + 4 ≤ w1.heap.size := by have := hb.size; simp at this; omega
      have hB : Below w.heap.size w w1 := below_of (by go_grown) hb (by simp <;> omega)
      clear hb
      by_cases ha : a = 0
      · by_cases hb0 : b = 0
        · have f1 : (a == 0) = true := by simpa using ha
          have f2 : (b == 0) = true := by simpa using hb0
          have hcs : Hid (a = 0 ∧ b = 0) := ⟨ha, hb0⟩
          clear ha hb0
          go_wp2_with (go_at_call 64; refine (makeLine_any _ _ _ _ _ hf hcs.out hcs.out hcs.out hcs.out hcs.out hcs.out).mono ?_; rintro e w' ⟨rfl, hbn⟩; replace y0 := keepF hbn z0 y0; replace y1 := keepF hbn z1 y1; replace y2 := keepF hbn z2 y2; replace z0 := keepC hbn z0; replace z1 := keepC hbn z1; replace z2 := keepC hbn z2; replace hB := below_of (B := w.heap.size) (a := w) (by first | exact hB | (have := hB.size; go_grown)) hbn (by first | exact hB.size | (have := hB.size; simp <;> omega)); clear hbn)
          try simp only [Exit.inBlock, Exit.then]
          refine bodyPost_ret (by simp [results, Tryz.results20, go_sem, y0, y1, y2, z0, z1, z2]; try rfl) rfl ?_
          exact ⟨ret_li (by rw [hfin.out, if_pos hcs.out]) (by rw [hfin.out, if_pos hcs.out]) (by rw [hfin.out, if_pos hcs.out]) (by rw [hfin.out, if_pos hcs.out]), by first | exact hB | go_grown⟩
        · have f1 : (a == 0) = true := by simpa using ha
          have f2 : (b == 0) = false := by simpa using hb0
          have hcs : Hid (¬ (a = 0 ∧ b = 0)) := fun h => hb0 h.2
          clear ha hb0
          go_wp2_with (go_at_call 64; refine (makeLine_any _ _ _ _ _ hf (by omega) (by omega) (by omega) (by omega) (by omega) (by omega)).mono ?_; rintro e w' ⟨rfl, hbn⟩; replace y0 := keepF hbn z0 y0; replace y1 := keepF hbn z1 y1; replace y2 := keepF hbn z2 y2; replace z0 := keepC hbn z0; replace z1 := keepC hbn z1; replace z2 := keepC hbn z2; replace hB := below_of (B := w.heap.size) (a := w) (by first | exact hB | (have := hB.size; go_grown)) hbn (by first | exact hB.size | (have := hB.size; simp <;> omega)); clear hbn)
          try simp only [Exit.inBlock, Exit.then]
          refine bodyPost_ret (by simp [results, Tryz.results20, go_sem, y0, y1, y2, z0, z1, z2]; try rfl) rfl ?_
          exact ⟨ret_li (by rw [hfin.out, if_neg hcs.out]) (by rw [hfin.out, if_neg hcs.out]) (by rw [hfin.out, if_neg hcs.out]) (by rw [hfin.out, if_neg hcs.out]), by first | exact hB | go_grown⟩
      · have f1 : (a == 0) = false := by simpa using ha
        have hcs : Hid (¬ (a = 0 ∧ b = 0)) := fun h => ha h.1
        clear ha
        go_wp2_with (go_at_call 64; refine (makeLine_any _ _ _ _ _ hf (by omega) (by omega) (by omega) (by omega) (by omega) (by omega)).mono ?_; rintro e w' ⟨rfl, hbn⟩; replace y0 := keepF hbn z0 y0; replace y1 := keepF hbn z1 y1; replace y2 := keepF hbn z2 y2; replace z0 := keepC hbn z0; replace z1 := keepC hbn z1; replace z2 := keepC hbn z2; replace hB := below_of (B := w.heap.size) (a := w) (by first | exact hB | (have := hB.size; go_grown)) hbn (by first | exact hB.size | (have := hB.size; simp <;> omega)); clear hbn)
        try simp only [Exit.inBlock, Exit.then]
        refine bodyPost_ret (by simp [results, Tryz.results20, go_sem, y0, y1, y2, z0, z1, z2]; try rfl) rfl ?_
        exact ⟨ret_li (by rw [hfin.out, if_neg hcs.out]) (by rw [hfin.out, if_neg hcs.out]) (by rw [hfin.out, if_neg hcs.out]) (by rw [hfin.out, if_neg hcs.out]), by first | exact hB | go_grown⟩
  · have hne : (Pl.ask p (Pl.numB p a && Pl.numB p b && Pl.numB p c) != 0) = true := by simpa using h0
    have hfin : Hid (Pl.lineOf p a b c = ((0, 0, 0), Pl.ask p (Pl.numB p a && Pl.numB p b && Pl.numB p c))) := by unfold Hid Pl.lineOf; rw [if_neg h0]
    clear h0
    go_enter Tryz.func20, Tryz.ntmps20
    go_wp2_with fail
    refine (asked_any p _ _ (Pl.numB p a && Pl.numB p b && Pl.numB p c) _ (by kernel_rfl) ?_).mono ?_
    · intro _
      exact LineOf1_any p a b c _ _ _ _ _ (by go_simp) (by go_simp) (by go_simp) (by go_simp)
    · rintro e w1 ⟨rfl, hb⟩
      have z0 : w1.cell? ⟨w.heap.size + 1 + 1 + 1 + 1, 0, none⟩ = some (.int .i64 0) := cellOf hb (by go_simp) (by simp <;> omega)
      have y0 : w1.frozen? ⟨w.heap.size + 1 + 1 + 1 + 1, 0, none⟩ = false := frozenOf hb (by go_simp) (by simp <;> omega)
      have z1 : w1.cell? ⟨w.heap.size + 1 + 1 + 1 + 1, 1, none⟩ = some (.int .i64 0) := cellOf hb (by go_simp) (by simp <;> omega)
      have y1 : w1.frozen? ⟨w.heap.size + 1 + 1 + 1 + 1, 1, none⟩ = false := frozenOf hb (by go_simp) (by simp <;> omega)
      have z2 : w1.cell? ⟨w.heap.size + 1 + 1 + 1 + 1, 2, none⟩ = some (.int .i64 0) := cellOf hb (by go_simp) (by simp <;> omega)
      have y2 : w1.frozen? ⟨w.heap.size + 1 + 1 + 1 + 1, 2, none⟩ = false := frozenOf hb (by go_simp) (by simp <;> omega)
      have hB : Below w.heap.size w w1 := below_of (by go_grown) hb (by simp <;> omega)
      clear hb
      go_wp2_with fail
      try simp only [Exit.inBlock, Exit.then]
      refine bodyPost_ret (by simp [results, Tryz.results20, go_sem, y0, y1, y2, z0, z1, z2]; try rfl) rfl ?_
      exact ⟨ret_li (by rw [hfin.out]) (by rw [hfin.out]) (by rw [hfin.out]) (by rw [hfin.out]), by go_grown⟩
theorem sLineOf_any (p a b c : Int) (w : World) :
    Calls Tryz.prog 21 #[.int .i64 p, .int .i64 a, .int .i64 b, .int .i64 c] w fun e w' => e = .returned (.tuple #[.agg #[.int .i64 ((Pl.lineOf p a b c).1.1), .int .i64 ((Pl.lineOf p a b c).1.2.1), .int .i64 ((Pl.lineOf p a b c).1.2.2)], .int .i64 ((Pl.lineOf p a b c).2)]) ∧ Below w.heap.size w w' := by
  by_cases h0 : Pl.ask p (Pl.numB p a && Pl.numB p b && Pl.numB p c) = 0
  · have hfin : Hid (Pl.lineOf p a b c = (if a = 0 ∧ b = 0 then ((0, 0, 0), 5) else ((Pl.nrm p a b a, Pl.nrm p a b b, Pl.nrm p a b c), 0))) := by unfold Hid Pl.lineOf; rw [if_pos h0]
    have hv : Hid (Pl.fieldB p = true ∧ (Pl.numB p a && Pl.numB p b && Pl.numB p c) = true) := Pl.ask_ok h0
    have hp := Pl.field_bd hv.out.1
    obtain ⟨hp1, hp2⟩ := hp
    obtain ⟨⟨a1, a2⟩, ⟨b1, b2⟩, c1, c2⟩ := Pl.num3 hv.out.2
    have hf := hv.out.1
    go_enter Tryz.func21, Tryz.ntmps21
    go_wp2_with fail
    refine (l01Numbers_any p _ 0 3 3 [a, b, c] rfl (by omega) _ ?_).mono ?_
    · intro j hj
      match j, hj with
      | 0, _ => go_simp
      | 1, _ => go_simp
      | 2, _ => go_simp
    · rintro e w' ⟨rfl, rfl⟩
      rw [Pl.nums3]
      generalize hW : (World.alloc (World.alloc w (.cells #[.int .i64 0, .int .i64 0, .int .i64 0] 29)) (.cells #[.int .i64 a, .int .i64 b, .int .i64 c] 2)) = W
      have z0 : W.cell? ⟨w.heap.size, 0, none⟩ = some (.int .i64 0) := by subst hW; go_simp
      have y0 : W.frozen? ⟨w.heap.size, 0, none⟩ = false := by subst hW; go_simp
      have z1 : W.cell? ⟨w.heap.size, 1, none⟩ = some (.int .i64 0) := by subst hW; go_simp
      have y1 : W.frozen? ⟨w.heap.size, 1, none⟩ = false := by subst hW; go_simp
      have z2 : W.cell? ⟨w.heap.size, 2, none⟩ = some (.int .i64 0) := by subst hW; go_simp
      have y2 : W.frozen? ⟨w.heap.size, 2, none⟩ = false := by subst hW; go_simp
      have hB : Below w.heap.size w W := by subst hW; go_grown
      clear hW
      by_cases ha : a = 0
      · by_cases hb0 : b = 0
        · have f1 : (a == 0) = true := by simpa using ha
          have f2 : (b == 0) = true := by simpa using hb0
          have hcs : Hid (a = 0 ∧ b = 0) := ⟨ha, hb0⟩
          clear ha hb0
          go_wp2_with (go_at_call 75; refine (l01Normal_any _ _ _ _ _ hf hcs.out hcs.out hcs.out hcs.out hcs.out hcs.out).mono ?_; rintro e w' ⟨rfl, hbn⟩; replace y0 := keepF hbn z0 y0; replace y1 := keepF hbn z1 y1; replace y2 := keepF hbn z2 y2; replace z0 := keepC hbn z0; replace z1 := keepC hbn z1; replace z2 := keepC hbn z2; replace hB := below_of (B := w.heap.size) (a := w) (by first | exact hB | (have := hB.size; go_grown)) hbn (by first | exact hB.size | (have := hB.size; simp <;> omega)); clear hbn)
          try simp only [Exit.inBlock, Exit.then]
          refine bodyPost_ret (by simp [results, Tryz.results21, go_sem, y0, y1, y2, z0, z1, z2]; try rfl) rfl ?_
          exact ⟨ret_li (by rw [hfin.out, if_pos hcs.out]) (by rw [hfin.out, if_pos hcs.out]) (by rw [hfin.out, if_pos hcs.out]) (by rw [hfin.out, if_pos hcs.out]), by first | exact hB | go_grown⟩
        · have f1 : (a == 0) = true := by simpa using ha
          have f2 : (b == 0) = false := by simpa using hb0
          have hcs : Hid (¬ (a = 0 ∧ b = 0)) := fun h => hb0 h.2
          clear ha hb0
          go_wp2_with (go_at_call 75; refine (l01Normal_any _ _ _ _ _ hf (by omega) (by omega) (by omega) (by omega) (by omega) (by omega)).mono ?_; rintro e w' ⟨rfl, hbn⟩; replace y0 := keepF hbn z0 y0; replace y1 := keepF hbn z1 y1; replace y2 := keepF hbn z2 y2; replace z0 := keepC hbn z0; replace z1 := keepC hbn z1; replace z2 := keepC hbn z2; replace hB := below_of (B := w.heap.size) (a := w) (by first | exact hB | (have := hB.size; go_grown)) hbn (by first | exact hB.size | (have := hB.size; simp <;> omega)); clear hbn)
          try simp only [Exit.inBlock, Exit.then]
          refine bodyPost_ret (by simp [results, Tryz.results21, go_sem, y0, y1, y2, z0, z1, z2]; try rfl) rfl ?_
          exact ⟨ret_li (by rw [hfin.out, if_neg hcs.out]) (by rw [hfin.out, if_neg hcs.out]) (by rw [hfin.out, if_neg hcs.out]) (by rw [hfin.out, if_neg hcs.out]), by first | exact hB | go_grown⟩
      · have f1 : (a == 0) = false := by simpa using ha
        have hcs : Hid (¬ (a = 0 ∧ b = 0)) := fun h => ha h.1
        clear ha
        go_wp2_with (go_at_call 75; refine (l01Normal_any _ _ _ _ _ hf (by omega) (by omega) (by omega) (by omega) (by omega) (by omega)).mono ?_; rintro e w' ⟨rfl, hbn⟩; replace y0 := keepF hbn z0 y0; replace y1 := keepF hbn z1 y1; replace y2 := keepF hbn z2 y2; replace z0 := keepC hbn z0; replace z1 := keepC hbn z1; replace z2 := keepC hbn z2; replace hB := below_of (B := w.heap.size) (a := w) (by first | exact hB | (have := hB.size; go_grown)) hbn (by first | exact hB.size | (have := hB.size; simp <;> omega)); clear hbn)
        try simp only [Exit.inBlock, Exit.then]
        refine bodyPost_ret (by simp [results, Tryz.results21, go_sem, y0, y1, y2, z0, z1, z2]; try rfl) rfl ?_
        exact ⟨ret_li (by rw [hfin.out, if_neg hcs.out]) (by rw [hfin.out, if_neg hcs.out]) (by rw [hfin.out, if_neg hcs.out]) (by rw [hfin.out, if_neg hcs.out]), by first | exact hB | go_grown⟩
  · have hne : (Pl.ask p (Pl.numB p a && Pl.numB p b && Pl.numB p c) != 0) = true := by simpa using h0
    have hfin : Hid (Pl.lineOf p a b c = ((0, 0, 0), Pl.ask p (Pl.numB p a && Pl.numB p b && Pl.numB p c))) := by unfold Hid Pl.lineOf; rw [if_neg h0]
    clear h0
    go_enter Tryz.func21, Tryz.ntmps21
    go_wp2_with fail
    refine (l01Numbers_any p _ 0 3 3 [a, b, c] rfl (by omega) _ ?_).mono ?_
    · intro j hj
      match j, hj with
      | 0, _ => go_simp
      | 1, _ => go_simp
      | 2, _ => go_simp
    · rintro e w' ⟨rfl, rfl⟩
      rw [Pl.nums3]
      go_wp2_with fail
      go_returns
      exact ⟨ret_li (by rw [hfin.out]) (by rw [hfin.out]) (by rw [hfin.out]) (by rw [hfin.out]), by go_grown⟩
end Go.Proofs.YtbjcbbnfgfmllaaGreat
