/- Contracts: differences, areas, products, tests on lines. -/
import Derived.Test.YtbjcbbnfgfmllaaGreatDoorE
import Derived.Deep.RegionHeld3
import Derived.Test.YtbjcbbnfgfmllaaGreatDoorRegA
import Derived.Deep.DeepCutAuto
set_option linter.unusedVariables false
set_option linter.unusedSimpArgs false
set_option maxHeartbeats 1000000
set_option maxRecDepth 100000
namespace Go.Proofs.YtbjcbbnfgfmllaaGreatDoor
open Go.RowKit
theorem l01Area_any (p ax ay bx by_ cx cy : Int) (w : World) (hp1 : 1 ≤ p) (hp2 : p ≤ 31) (ax1 : 0 ≤ ax) (ax2 : ax ≤ 31) (ay1 : 0 ≤ ay) (ay2 : ay ≤ 31) (bx1 : 0 ≤ bx) (bx2 : bx ≤ 31) (by_1 : 0 ≤ by_) (by_2 : by_ ≤ 31) (cx1 : 0 ≤ cx) (cx2 : cx ≤ 31) (cy1 : 0 ≤ cy) (cy2 : cy ≤ 31) :
    Calls Tryz.prog 54 #[.int .i64 p, .agg #[.int .i64 ax, .int .i64 ay], .agg #[.int .i64 bx, .int .i64 by_], .agg #[.int .i64 cx, .int .i64 cy]] w fun e w' => e = .returned (.int .i64 (Pl.area p ax ay bx by_ cx cy)) ∧ Below w.heap.size w w' := by
  have h1 := Pl.mulA (show -31 ≤ (bx - ax) by omega) (show (bx - ax) ≤ 31 by omega) (show -31 ≤ (cy - ay) by omega) (show (cy - ay) ≤ 31 by omega)
  obtain ⟨h1a, h1b⟩ := h1
  have h2 := Pl.mulA (show -31 ≤ (by_ - ay) by omega) (show (by_ - ay) ≤ 31 by omega) (show -31 ≤ (cx - ax) by omega) (show (cx - ax) ≤ 31 by omega)
  obtain ⟨h2a, h2b⟩ := h2
  go_enter Tryz.func54, Tryz.ntmps54
  go_wp2_with (go_at_call 85; refine (l01Mod_any _ _ _ hp1 (by omega)).mono ?_; rintro e w' ⟨rfl, rfl⟩)
  go_ret
  exact ⟨rfl, by go_grown⟩
theorem less_ex (p ax ay bx by_ : Int) (w : World) (hp1 : 1 ≤ p) (hp2 : p ≤ 31) (ax1 : 0 ≤ ax) (ax2 : ax ≤ 31) (ay1 : 0 ≤ ay) (ay2 : ay ≤ 31) (bx1 : 0 ≤ bx) (bx2 : bx ≤ 31) (by_1 : 0 ≤ by_) (by_2 : by_ ≤ 31) :
    Calls Tryz.prog 89 #[.int .i64 p, .agg #[.int .i64 ax, .int .i64 ay], .agg #[.int .i64 bx, .int .i64 by_]] w fun e w' => e = .returned (.agg #[.int .i64 ((ax - bx) % p), .int .i64 ((ay - by_) % p)]) ∧
      (((w.alloc (.cells #[.int .i64 ax, .int .i64 ay] 29)).alloc (.cells #[.int .i64 bx, .int .i64 by_] 29)).alloc (.cells #[.int .i64 ((ax - bx) % p), .int .i64 ((ay - by_) % p)] 29)).drew = w' := by
  have e1 : IntKind.i64.wrap (ax - bx) = ax - bx := IntWalk.i64_in _ (by omega)
  have e2 : IntKind.i64.wrap (ay - by_) = ay - by_ := IntWalk.i64_in _ (by omega)
  go_enter Tryz.func89, Tryz.ntmps89
  go_wp2_with fail
  go_region_held3 (fun w' => w'.cell? ⟨w.heap.size, 0, none⟩ = some (.int .i64 ax) ∧ w'.cell? ⟨w.heap.size, 1, none⟩ = some (.int .i64 ay) ∧ w'.cell? ⟨w.heap.size + 1, 0, none⟩ = some (.int .i64 bx) ∧ w'.cell? ⟨w.heap.size + 1, 1, none⟩ = some (.int .i64 by_)) (go_keep) (first | (go_at_call 87; refine (rest_any _ _ _ hp1 (by omega)).mono ?_; rintro e w' ⟨rfl, rfl⟩))
  go_wp2_with fail
  go_returns
  exact ⟨rfl, rfl⟩
theorem less_any (p ax ay bx by_ : Int) (w : World) (hp1 : 1 ≤ p) (hp2 : p ≤ 31) (ax1 : 0 ≤ ax) (ax2 : ax ≤ 31) (ay1 : 0 ≤ ay) (ay2 : ay ≤ 31) (bx1 : 0 ≤ bx) (bx2 : bx ≤ 31) (by_1 : 0 ≤ by_) (by_2 : by_ ≤ 31) :
    Calls Tryz.prog 89 #[.int .i64 p, .agg #[.int .i64 ax, .int .i64 ay], .agg #[.int .i64 bx, .int .i64 by_]] w fun e w' => e = .returned (.agg #[.int .i64 ((ax - bx) % p), .int .i64 ((ay - by_) % p)]) ∧ Below w.heap.size w w' :=
  (less_ex p ax ay bx by_ w hp1 hp2 ax1 ax2 ay1 ay2 bx1 bx2 by_1 by_2).mono fun e w' ⟨he, hw⟩ => ⟨he, by rw [← hw]; go_grown⟩
theorem area_any (p ax ay bx by_ cx cy : Int) (w : World) (hp1 : 1 ≤ p) (hp2 : p ≤ 31) (ax1 : 0 ≤ ax) (ax2 : ax ≤ 31) (ay1 : 0 ≤ ay) (ay2 : ay ≤ 31) (bx1 : 0 ≤ bx) (bx2 : bx ≤ 31) (by_1 : 0 ≤ by_) (by_2 : by_ ≤ 31) (cx1 : 0 ≤ cx) (cx2 : cx ≤ 31) (cy1 : 0 ≤ cy) (cy2 : cy ≤ 31) :
    Calls Tryz.prog 58 #[.int .i64 p, .agg #[.int .i64 ax, .int .i64 ay], .agg #[.int .i64 bx, .int .i64 by_], .agg #[.int .i64 cx, .int .i64 cy]] w fun e w' => e = .returned (.int .i64 (Pl.area p ax ay bx by_ cx cy)) ∧ Below w.heap.size w w' := by
  have r1n := Int.emod_nonneg (bx - ax) (show p ≠ 0 by omega)
  have r1l := Int.emod_lt_of_pos (bx - ax) (show 0 < p by omega)
  have r2n := Int.emod_nonneg (cy - ay) (show p ≠ 0 by omega)
  have r2l := Int.emod_lt_of_pos (cy - ay) (show 0 < p by omega)
  have r3n := Int.emod_nonneg (by_ - ay) (show p ≠ 0 by omega)
  have r3l := Int.emod_lt_of_pos (by_ - ay) (show 0 < p by omega)
  have r4n := Int.emod_nonneg (cx - ax) (show p ≠ 0 by omega)
  have r4l := Int.emod_lt_of_pos (cx - ax) (show 0 < p by omega)
  have h1 := Pl.mulB (show 0 ≤ ((bx - ax) % p) by omega) (show ((bx - ax) % p) ≤ 31 by omega) (show 0 ≤ ((cy - ay) % p) by omega) (show ((cy - ay) % p) ≤ 31 by omega)
  obtain ⟨h1a, h1b⟩ := h1
  have h2 := Pl.mulB (show 0 ≤ ((by_ - ay) % p) by omega) (show ((by_ - ay) % p) ≤ 31 by omega) (show 0 ≤ ((cx - ax) % p) by omega) (show ((cx - ax) % p) ≤ 31 by omega)
  obtain ⟨h2a, h2b⟩ := h2
  go_enter Tryz.func58, Tryz.ntmps58
  go_wp2_with fail
  generalize hW : (World.alloc (World.alloc (World.alloc w (.cells #[.int .i64 ax, .int .i64 ay] 29)) (.cells #[.int .i64 bx, .int .i64 by_] 29)) (.cells #[.int .i64 cx, .int .i64 cy] 29)) = W
  have d00 : W.cell? ⟨w.heap.size, 0, none⟩ = some (.int .i64 ax) := by subst hW; go_simp
  have d01 : W.cell? ⟨w.heap.size, 1, none⟩ = some (.int .i64 ay) := by subst hW; go_simp
  have d10 : W.cell? ⟨w.heap.size + 1, 0, none⟩ = some (.int .i64 bx) := by subst hW; go_simp
  have d11 : W.cell? ⟨w.heap.size + 1, 1, none⟩ = some (.int .i64 by_) := by subst hW; go_simp
  have d20 : W.cell? ⟨w.heap.size + 1 + 1, 0, none⟩ = some (.int .i64 cx) := by subst hW; go_simp
  have d21 : W.cell? ⟨w.heap.size + 1 + 1, 1, none⟩ = some (.int .i64 cy) := by subst hW; go_simp
  have hB : Below w.heap.size w W := by subst hW; go_grown
  clear hW
  refine Reg.wp_region_grow (by kernel_rfl) 8 10 (fun _ => (#[.int .i64 0, .int .i64 0], 29)) (by kernel_rfl) ?_ ?_
  · intro k o h1 h2 ho ρ wz
    obtain rfl | rfl : k = 8 ∨ k = 9 := by omega
    all_goals (simp at ho; subst ho; first | rfl | go_simp | kernel_rfl)
  simp only [List.take_succ_cons, List.take_zero, List.drop_succ_cons, List.drop_zero]
  refine Reg.wpG_step (v := ?vr1x0) (fun wq hq => ?gr1x0) ?kr1x0
  case gr1x0 => (have q0 := keepC hq d00; have q1 := keepC hq d01; have q2 := keepC hq d10; have q3 := keepC hq d11; have q4 := keepC hq d20; have q5 := keepC hq d21; refine Reg.gAt_val ?_; go_simp; first | done | (with_reducible rfl) | rfl)
  try simp only [Act.put, List.setIfInBounds_toArray, List.set_cons_zero, List.set_cons_succ]
  refine Reg.wpG_step (v := ?vr1x1) (fun wq hq => ?gr1x1) ?kr1x1
  case gr1x1 => (have q0 := keepC hq d00; have q1 := keepC hq d01; have q2 := keepC hq d10; have q3 := keepC hq d11; have q4 := keepC hq d20; have q5 := keepC hq d21; refine Reg.gAt_val ?_; go_simp; first | done | (with_reducible rfl) | rfl)
  try simp only [Act.put, List.setIfInBounds_toArray, List.set_cons_zero, List.set_cons_succ]
  refine Reg.wpG_step (v := ?vr1x2) (fun wq hq => ?gr1x2) ?kr1x2
  case gr1x2 => (have q0 := keepC hq d00; have q1 := keepC hq d01; have q2 := keepC hq d10; have q3 := keepC hq d11; have q4 := keepC hq d20; have q5 := keepC hq d21; refine Reg.gAt_val ?_; go_simp; first | done | (with_reducible rfl) | rfl)
  try simp only [Act.put, List.setIfInBounds_toArray, List.set_cons_zero, List.set_cons_succ]
  refine Reg.wpG_step (v := .agg #[.int .i64 ((bx - ax) % p), .int .i64 ((by_ - ay) % p)]) (fun wq hq => ?gr1x3) ?kr1x3
  case gr1x3 => (unfold Reg.gAt; go_simp; refine Reg.quiet_enter ?_; exact less_any _ _ _ _ _ _ hp1 hp2 (by omega) (by omega) (by omega) (by omega) (by omega) (by omega) (by omega) (by omega) )
  try simp only [Act.put, List.setIfInBounds_toArray, List.set_cons_zero, List.set_cons_succ]
  refine Reg.wpG_step (v := ?vr1x4) (fun wq hq => ?gr1x4) ?kr1x4
  case gr1x4 => (have q0 := keepC hq d00; have q1 := keepC hq d01; have q2 := keepC hq d10; have q3 := keepC hq d11; have q4 := keepC hq d20; have q5 := keepC hq d21; refine Reg.gAt_val ?_; go_simp; first | done | (with_reducible rfl) | rfl)
  try simp only [Act.put, List.setIfInBounds_toArray, List.set_cons_zero, List.set_cons_succ]
  refine Reg.wpG_step (v := ?vr1x5) (fun wq hq => ?gr1x5) ?kr1x5
  case gr1x5 => (have q0 := keepC hq d00; have q1 := keepC hq d01; have q2 := keepC hq d10; have q3 := keepC hq d11; have q4 := keepC hq d20; have q5 := keepC hq d21; refine Reg.gAt_val ?_; go_simp; first | done | (with_reducible rfl) | rfl)
  try simp only [Act.put, List.setIfInBounds_toArray, List.set_cons_zero, List.set_cons_succ]
  refine Reg.wpG_step (v := ?vr1x6) (fun wq hq => ?gr1x6) ?kr1x6
  case gr1x6 => (have q0 := keepC hq d00; have q1 := keepC hq d01; have q2 := keepC hq d10; have q3 := keepC hq d11; have q4 := keepC hq d20; have q5 := keepC hq d21; refine Reg.gAt_val ?_; go_simp; first | done | (with_reducible rfl) | rfl)
  try simp only [Act.put, List.setIfInBounds_toArray, List.set_cons_zero, List.set_cons_succ]
  refine Reg.wpG_step (v := .agg #[.int .i64 ((cx - ax) % p), .int .i64 ((cy - ay) % p)]) (fun wq hq => ?gr1x7) ?kr1x7
  case gr1x7 => (unfold Reg.gAt; go_simp; refine Reg.quiet_enter ?_; exact less_any _ _ _ _ _ _ hp1 hp2 (by omega) (by omega) (by omega) (by omega) (by omega) (by omega) (by omega) (by omega) )
  try simp only [Act.put, List.setIfInBounds_toArray, List.set_cons_zero, List.set_cons_succ]
  intro w2 g hB2 hg hd
  obtain ⟨hge8, hblk8⟩ := hg 8 (by omega) (by omega)
  obtain ⟨hge9, hblk9⟩ := hg 9 (by omega) (by omega)
  have hne89 : ¬ g 8 = g 9 := hd 8 9 (by omega) (by omega) (by omega) (by omega) (by omega)
  have hnf89 : ¬ g 9 = g 8 := fun e => hne89 e.symm
  clear hg hd
  simp only [List.range'_succ, List.range'_zero, Reg.putPtrs, Reg.dst, Act.put, List.setIfInBounds_toArray, List.set_cons_zero, List.set_cons_succ, List.getElem?_cons_zero, List.getElem?_cons_succ, Option.bind_some]
  generalize g 8 = g8 at *
  generalize g 9 = g9 at *
  obtain ⟨z80, z81, y80, y81⟩ := Reg.blk2 hblk8
  obtain ⟨z90, z91, y90, y91⟩ := Reg.blk2 hblk9
  clear hblk8 hblk9
  have hgw8 : w.heap.size ≤ g8 := Nat.le_trans hB.size hge8
  have hgw9 : w.heap.size ≤ g9 := Nat.le_trans hB.size hge9
  replace d00 := keepC hB2 d00
  replace d01 := keepC hB2 d01
  replace d10 := keepC hB2 d10
  replace d11 := keepC hB2 d11
  replace d20 := keepC hB2 d20
  replace d21 := keepC hB2 d21
  replace hB := below_of hB hB2 hB.size
  clear hB2 hge8 hge9

  clear d00 d01 d10 d11 d20 d21
  go_wp2_with (go_at_call 87; refine (rest_any _ _ _ hp1 (by omega)).mono ?_; rintro e w' ⟨rfl, rfl⟩)
  go_ret
  exact ⟨ret_int (Pl.area_eq p ax ay bx by_ cx cy), by go_grown⟩
end Go.Proofs.YtbjcbbnfgfmllaaGreatDoor
