/- Contracts: differences, areas, products, tests on lines. -/
import Derived.Test.YtbjcbbnfgfmllaaE
import Derived.Deep.RegionHeld3
import Derived.Test.YtbjcbbnfgfmllaaRegA
import Derived.Deep.DeepCutAuto
set_option linter.unusedVariables false
set_option linter.unusedSimpArgs false
set_option maxHeartbeats 1000000
set_option maxRecDepth 100000
namespace Go.Proofs.Ytbjcbbnfgfmllaa
open Go.RowKit
theorem isOn_any (p ax ay la lb lc : Int) (w : World) (hp1 : 1 ≤ p) (hp2 : p ≤ 31) (ax1 : 0 ≤ ax) (ax2 : ax ≤ 31) (ay1 : 0 ≤ ay) (ay2 : ay ≤ 31) (la1 : 0 ≤ la) (la2 : la ≤ 31) (lb1 : 0 ≤ lb) (lb2 : lb ≤ 31) (lc1 : 0 ≤ lc) (lc2 : lc ≤ 31) :
    Calls Try.prog 141 #[.int .i64 p, .agg #[.int .i64 ax, .int .i64 ay], .agg #[.int .i64 la, .int .i64 lb, .int .i64 lc]] w fun e w' => e = .returned (.bool (Pl.onB p ax ay la lb lc)) ∧ Below w.heap.size w w' := by
  have h1 := Pl.mulB (show 0 ≤ la by omega) (show la ≤ 31 by omega) (show 0 ≤ ax by omega) (show ax ≤ 31 by omega)
  obtain ⟨h1a, h1b⟩ := h1
  have h2 := Pl.mulB (show 0 ≤ lb by omega) (show lb ≤ 31 by omega) (show 0 ≤ ay by omega) (show ay ≤ 31 by omega)
  obtain ⟨h2a, h2b⟩ := h2
  go_enter Try.func141, Try.ntmps141
  go_wp2_with fail
  go_ret
  exact ⟨rfl, by go_grown⟩
theorem l01Area_any (p ax ay bx by_ cx cy : Int) (w : World) (hp1 : 1 ≤ p) (hp2 : p ≤ 31) (ax1 : 0 ≤ ax) (ax2 : ax ≤ 31) (ay1 : 0 ≤ ay) (ay2 : ay ≤ 31) (bx1 : 0 ≤ bx) (bx2 : bx ≤ 31) (by_1 : 0 ≤ by_) (by_2 : by_ ≤ 31) (cx1 : 0 ≤ cx) (cx2 : cx ≤ 31) (cy1 : 0 ≤ cy) (cy2 : cy ≤ 31) :
    Calls Try.prog 156 #[.int .i64 p, .agg #[.int .i64 ax, .int .i64 ay], .agg #[.int .i64 bx, .int .i64 by_], .agg #[.int .i64 cx, .int .i64 cy]] w fun e w' => e = .returned (.int .i64 (Pl.area p ax ay bx by_ cx cy)) ∧ Below w.heap.size w w' := by
  have h1 := Pl.mulA (show -31 ≤ (bx - ax) by omega) (show (bx - ax) ≤ 31 by omega) (show -31 ≤ (cy - ay) by omega) (show (cy - ay) ≤ 31 by omega)
  obtain ⟨h1a, h1b⟩ := h1
  have h2 := Pl.mulA (show -31 ≤ (by_ - ay) by omega) (show (by_ - ay) ≤ 31 by omega) (show -31 ≤ (cx - ax) by omega) (show (cx - ax) ≤ 31 by omega)
  obtain ⟨h2a, h2b⟩ := h2
  go_enter Try.func156, Try.ntmps156
  go_wp2_with (go_at_call 71; refine (l01Mod_any _ _ _ hp1 (by omega)).mono ?_; rintro e w' ⟨rfl, rfl⟩)
  go_ret
  exact ⟨rfl, by go_grown⟩
theorem less_ex (p ax ay bx by_ : Int) (w : World) (hp1 : 1 ≤ p) (hp2 : p ≤ 31) (ax1 : 0 ≤ ax) (ax2 : ax ≤ 31) (ay1 : 0 ≤ ay) (ay2 : ay ≤ 31) (bx1 : 0 ≤ bx) (bx2 : bx ≤ 31) (by_1 : 0 ≤ by_) (by_2 : by_ ≤ 31) :
    Calls Try.prog 157 #[.int .i64 p, .agg #[.int .i64 ax, .int .i64 ay], .agg #[.int .i64 bx, .int .i64 by_]] w fun e w' => e = .returned (.agg #[.int .i64 ((ax - bx) % p), .int .i64 ((ay - by_) % p)]) ∧
      (((w.alloc (.cells #[.int .i64 ax, .int .i64 ay] 33)).alloc (.cells #[.int .i64 bx, .int .i64 by_] 33)).alloc (.cells #[.int .i64 ((ax - bx) % p), .int .i64 ((ay - by_) % p)] 33)).drew = w' := by
  have e1 : IntKind.i64.wrap (ax - bx) = ax - bx := IntWalk.i64_in _ (by omega)
  have e2 : IntKind.i64.wrap (ay - by_) = ay - by_ := IntWalk.i64_in _ (by omega)
  go_enter Try.func157, Try.ntmps157
  go_wp2_with fail
  go_region_held3 (fun w' => w'.cell? ⟨w.heap.size, 0, none⟩ = some (.int .i64 ax) ∧ w'.cell? ⟨w.heap.size, 1, none⟩ = some (.int .i64 ay) ∧ w'.cell? ⟨w.heap.size + 1, 0, none⟩ = some (.int .i64 bx) ∧ w'.cell? ⟨w.heap.size + 1, 1, none⟩ = some (.int .i64 by_)) (go_keep) (first | (go_at_call 70; refine (rest_any _ _ _ hp1 (by omega)).mono ?_; rintro e w' ⟨rfl, rfl⟩))
  go_wp2_with fail
  go_returns
  exact ⟨rfl, rfl⟩
theorem less_any (p ax ay bx by_ : Int) (w : World) (hp1 : 1 ≤ p) (hp2 : p ≤ 31) (ax1 : 0 ≤ ax) (ax2 : ax ≤ 31) (ay1 : 0 ≤ ay) (ay2 : ay ≤ 31) (bx1 : 0 ≤ bx) (bx2 : bx ≤ 31) (by_1 : 0 ≤ by_) (by_2 : by_ ≤ 31) :
    Calls Try.prog 157 #[.int .i64 p, .agg #[.int .i64 ax, .int .i64 ay], .agg #[.int .i64 bx, .int .i64 by_]] w fun e w' => e = .returned (.agg #[.int .i64 ((ax - bx) % p), .int .i64 ((ay - by_) % p)]) ∧ Below w.heap.size w w' :=
  (less_ex p ax ay bx by_ w hp1 hp2 ax1 ax2 ay1 ay2 bx1 bx2 by_1 by_2).mono fun e w' ⟨he, hw⟩ => ⟨he, by rw [← hw]; go_grown⟩
theorem area_any (p ax ay bx by_ cx cy : Int) (w : World) (hp1 : 1 ≤ p) (hp2 : p ≤ 31) (ax1 : 0 ≤ ax) (ax2 : ax ≤ 31) (ay1 : 0 ≤ ay) (ay2 : ay ≤ 31) (bx1 : 0 ≤ bx) (bx2 : bx ≤ 31) (by_1 : 0 ≤ by_) (by_2 : by_ ≤ 31) (cx1 : 0 ≤ cx) (cx2 : cx ≤ 31) (cy1 : 0 ≤ cy) (cy2 : cy ≤ 31) :
    Calls Try.prog 154 #[.int .i64 p, .agg #[.int .i64 ax, .int .i64 ay], .agg #[.int .i64 bx, .int .i64 by_], .agg #[.int .i64 cx, .int .i64 cy]] w fun e w' => e = .returned (.int .i64 (Pl.area p ax ay bx by_ cx cy)) ∧ Below w.heap.size w w' := by
  have r1n := Int.emod_nonneg (bx - ax) (show p ≠ 0 by omega)
  have r1l := Int.emod_lt_of_pos (bx - ax) (show 0 < p by omega)
  have r2n := Int.emod_nonneg (cy - ay) (show p ≠ 0 by omega)
  have r2l := Int.emod_lt_of_pos (cy - ay) (show 0 < p by omega)
  have r3n := Int.emod_nonneg (by_ - ay) (show p ≠ 0 by omega)
  have r3l := Int.emod_lt_of_pos (by_ - ay) (show 0 < p by omega)
  have r4n := Int.emod_nonneg (cx - ax) (show p ≠ 0 by omega)
  have r4l := Int.emod_lt_of_pos (cx - ax) (show 0 < p by omega)
  have h1 := Pl.mulB (show 0 ≤ ((bx - ax) % p) by omega) (show ((bx - ax) % p) ≤ 31 by omega) (show 0 ≤ ((cy - ay) % p) by omega) (show ((cy - ay) % p) ≤ 31 by omega)
  obtain ⟨h1a, h1b⟩ := h1
  have h2 := Pl.mulB (show 0 ≤ ((by_ - ay) % p) by omega) (show ((by_ - ay) % p) ≤ 31 by omega) (show 0 ≤ ((cx - ax) % p) by omega) (show ((cx - ax) % p) ≤ 31 by omega)
  obtain ⟨h2a, h2b⟩ := h2
  go_enter Try.func154, Try.ntmps154
  go_wp2_with fail
  generalize hW : (World.alloc (World.alloc (World.alloc w (.cells #[.int .i64 ax, .int .i64 ay] 33)) (.cells #[.int .i64 bx, .int .i64 by_] 33)) (.cells #[.int .i64 cx, .int .i64 cy] 33)) = W
  have d00 : W.cell? ⟨w.heap.size, 0, none⟩ = some (.int .i64 ax) := by subst hW; go_simp
  have d01 : W.cell? ⟨w.heap.size, 1, none⟩ = some (.int .i64 ay) := by subst hW; go_simp
  have d10 : W.cell? ⟨w.heap.size + 1, 0, none⟩ = some (.int .i64 bx) := by subst hW; go_simp
  have d11 : W.cell? ⟨w.heap.size + 1, 1, none⟩ = some (.int .i64 by_) := by subst hW; go_simp
  have d20 : W.cell? ⟨w.heap.size + 1 + 1, 0, none⟩ = some (.int .i64 cx) := by subst hW; go_simp
  have d21 : W.cell? ⟨w.heap.size + 1 + 1, 1, none⟩ = some (.int .i64 cy) := by subst hW; go_simp
  have hB : Below w.heap.size w W := by subst hW; go_grown
  clear hW
  refine Reg.wp_region_grow (by kernel_rfl) 8 10 (fun _ => (#[.int .i64 0, .int .i64 0], 33)) (by kernel_rfl) ?_ ?_
  · intro k o h1 h2 ho ρ wz
    obtain rfl | rfl : k = 8 ∨ k = 9 := by omega
    all_goals (simp at ho; subst ho; first | rfl | go_simp | kernel_rfl)
  simp only [List.take_succ_cons, List.take_zero, List.drop_succ_cons, List.drop_zero]
  refine Reg.wpG_step (v := ?vr1x0) (fun wq hq => ?gr1x0) ?kr1x0
  case gr1x0 => (have q0 := keepC hq d00; have q1 := keepC hq d01; have q2 := keepC hq d10; have q3 := keepC hq d11; have q4 := keepC hq d20; have q5 := keepC hq d21; refine Reg.gAt_val ?_; go_simp; first | done | (with_reducible rfl) | rfl)
  try simp only [Act.put, List.setIfInBounds_toArray, List.set_cons_zero, List.set_cons_succ]
  refine Reg.wpG_step (v := ?vr1x1) (fun wq hq => ?gr1x1) ?kr1x1
  case gr1x1 => (have q0 := keepC hq d00; have q1 := keepC hq d01; have q2 := keepC hq d10; have q3 := keepC hq d11; have q4 := keepC hq d20; have q5 := keepC hq d21; refine Reg.gAt_val ?_; go_simp; first | done | (with_reducible rfl) | rfl)
  try simp only [Act.put, List.setIfInBounds_toArray, List.set_cons_zero, List.set_cons_succ]
  refine Reg.wpG_step (v := ?vr1x2) (fun wq hq => ?gr1x2) ?kr1x2
  case gr1x2 => (have q0 := keepC hq d00; have q1 := keepC hq d01; have q2 := keepC hq d10; have q3 := keepC hq d11; have q4 := keepC hq d20; have q5 := keepC hq d21; refine Reg.gAt_val ?_; go_simp; first | done | (with_reducible rfl) | rfl)
  try simp only [Act.put, List.setIfInBounds_toArray, List.set_cons_zero, List.set_cons_succ]
  refine Reg.wpG_step (v := .agg #[.int .i64 ((bx - ax) % p), .int .i64 ((by_ - ay) % p)]) (fun wq hq => ?gr1x3) ?kr1x3
  case gr1x3 => (unfold Reg.gAt; go_simp; refine Reg.quiet_enter ?_; exact less_any _ _ _ _ _ _ hp1 hp2 (by omega) (by omega) (by omega) (by omega) (by omega) (by omega) (by omega) (by omega) )
  try simp only [Act.put, List.setIfInBounds_toArray, List.set_cons_zero, List.set_cons_succ]
  refine Reg.wpG_step (v := ?vr1x4) (fun wq hq => ?gr1x4) ?kr1x4
  case gr1x4 => (have q0 := keepC hq d00; have q1 := keepC hq d01; have q2 := keepC hq d10; have q3 := keepC hq d11; have q4 := keepC hq d20; have q5 := keepC hq d21; refine Reg.gAt_val ?_; go_simp; first | done | (with_reducible rfl) | rfl)
  try simp only [Act.put, List.setIfInBounds_toArray, List.set_cons_zero, List.set_cons_succ]
  refine Reg.wpG_step (v := ?vr1x5) (fun wq hq => ?gr1x5) ?kr1x5
  case gr1x5 => (have q0 := keepC hq d00; have q1 := keepC hq d01; have q2 := keepC hq d10; have q3 := keepC hq d11; have q4 := keepC hq d20; have q5 := keepC hq d21; refine Reg.gAt_val ?_; go_simp; first | done | (with_reducible rfl) | rfl)
  try simp only [Act.put, List.setIfInBounds_toArray, List.set_cons_zero, List.set_cons_succ]
  refine Reg.wpG_step (v := ?vr1x6) (fun wq hq => ?gr1x6) ?kr1x6
  case gr1x6 => (have q0 := keepC hq d00; have q1 := keepC hq d01; have q2 := keepC hq d10; have q3 := keepC hq d11; have q4 := keepC hq d20; have q5 := keepC hq d21; refine Reg.gAt_val ?_; go_simp; first | done | (with_reducible rfl) | rfl)
  try simp only [Act.put, List.setIfInBounds_toArray, List.set_cons_zero, List.set_cons_succ]
  refine Reg.wpG_step (v := .agg #[.int .i64 ((cx - ax) % p), .int .i64 ((cy - ay) % p)]) (fun wq hq => ?gr1x7) ?kr1x7
  case gr1x7 => (unfold Reg.gAt; go_simp; refine Reg.quiet_enter ?_; exact less_any _ _ _ _ _ _ hp1 hp2 (by omega) (by omega) (by omega) (by omega) (by omega) (by omega) (by omega) (by omega) )
  try simp only [Act.put, List.setIfInBounds_toArray, List.set_cons_zero, List.set_cons_succ]
  intro w2 g hB2 hg hd
  obtain ⟨hge8, hblk8⟩ := hg 8 (by omega) (by omega)
  obtain ⟨hge9, hblk9⟩ := hg 9 (by omega) (by omega)
  have hne89 : ¬ g 8 = g 9 := hd 8 9 (by omega) (by omega) (by omega) (by omega) (by omega)
  have hnf89 : ¬ g 9 = g 8 := fun e => hne89 e.symm
  clear hg hd
  simp only [List.range'_succ, List.range'_zero, Reg.putPtrs, Reg.dst, Act.put, List.setIfInBounds_toArray, List.set_cons_zero, List.set_cons_succ, List.getElem?_cons_zero, List.getElem?_cons_succ, Option.bind_some]
  generalize g 8 = g8 at *
  generalize g 9 = g9 at *
  obtain ⟨z80, z81, y80, y81⟩ := Reg.blk2 hblk8
  obtain ⟨z90, z91, y90, y91⟩ := Reg.blk2 hblk9
  clear hblk8 hblk9
  have hgw8 : w.heap.size ≤ g8 := Nat.le_trans hB.size hge8
  have hgw9 : w.heap.size ≤ g9 := Nat.le_trans hB.size hge9
  replace d00 := keepC hB2 d00
  replace d01 := keepC hB2 d01
  replace d10 := keepC hB2 d10
  replace d11 := keepC hB2 d11
  replace d20 := keepC hB2 d20
  replace d21 := keepC hB2 d21
  replace hB := below_of hB hB2 hB.size
  clear hB2 hge8 hge9

  clear d00 d01 d10 d11 d20 d21
  go_wp2_with (go_at_call 70; refine (rest_any _ _ _ hp1 (by omega)).mono ?_; rintro e w' ⟨rfl, rfl⟩)
  go_ret
  exact ⟨ret_int (Pl.area_eq p ax ay bx by_ cx cy), by go_grown⟩
theorem product_any (p k ax ay bx by_ : Int) (w : World) (hp1 : 1 ≤ p) (hp2 : p ≤ 31) (ax1 : 0 ≤ ax) (ax2 : ax ≤ 31) (ay1 : 0 ≤ ay) (ay2 : ay ≤ 31) (bx1 : 0 ≤ bx) (bx2 : bx ≤ 31) (by_1 : 0 ≤ by_) (by_2 : by_ ≤ 31) :
    Calls Try.prog 105 #[.int .i64 p, .int .i64 k, .agg #[.int .i64 ax, .int .i64 ay], .agg #[.int .i64 bx, .int .i64 by_]] w fun e w' => e = .returned (.int .i64 (Pl.prod p k ax ay bx by_)) ∧ Below w.heap.size w w' := by
  have h1 := Pl.mulB (show 0 ≤ ax by omega) (show ax ≤ 31 by omega) (show 0 ≤ bx by omega) (show bx ≤ 31 by omega)
  obtain ⟨h1a, h1b⟩ := h1
  have h2 := Pl.mulB (show 0 ≤ ay by omega) (show ay ≤ 31 by omega) (show 0 ≤ by_ by omega) (show by_ ≤ 31 by omega)
  obtain ⟨h2a, h2b⟩ := h2
  have h3 := Pl.mulB (show 0 ≤ ax by omega) (show ax ≤ 31 by omega) (show 0 ≤ by_ by omega) (show by_ ≤ 31 by omega)
  obtain ⟨h3a, h3b⟩ := h3
  have h4 := Pl.mulB (show 0 ≤ ay by omega) (show ay ≤ 31 by omega) (show 0 ≤ bx by omega) (show bx ≤ 31 by omega)
  obtain ⟨h4a, h4b⟩ := h4
  by_cases e0 : k = 0
  · have f0 : (k == 0) = true := by simpa using e0
    have e0h := hid e0
    clear e0
    go_enter Try.func105, Try.ntmps105
    go_wp2_with (go_at_call 70; refine (rest_any _ _ _ hp1 (by omega)).mono ?_; rintro e w' ⟨rfl, rfl⟩)
    go_ret
    exact ⟨ret_int (Pl.prod_0 e0h.out).symm, by go_grown⟩
  · have f0 : (k == 0) = false := by simpa using e0
    by_cases e1 : k = 1
    · have f1 : (k == 1) = true := by simpa using e1
      have e1h := hid e1
      clear e1
      go_enter Try.func105, Try.ntmps105
      go_wp2_with (go_at_call 70; refine (rest_any _ _ _ hp1 (by omega)).mono ?_; rintro e w' ⟨rfl, rfl⟩)
      go_ret
      exact ⟨ret_int (Pl.prod_1 e0 e1h.out).symm, by go_grown⟩
    · have f1 : (k == 1) = false := by simpa using e1
      go_enter Try.func105, Try.ntmps105
      go_wp2_with (go_at_call 70; refine (rest_any _ _ _ hp1 (by omega)).mono ?_; rintro e w' ⟨rfl, rfl⟩)
      go_ret
      exact ⟨ret_int (Pl.prod_2 e0 e1).symm, by go_grown⟩
theorem l02Product_any (p k ax ay bx by_ : Int) (w : World) (hp1 : 1 ≤ p) (hp2 : p ≤ 31) (ax1 : 0 ≤ ax) (ax2 : ax ≤ 31) (ay1 : 0 ≤ ay) (ay2 : ay ≤ 31) (bx1 : 0 ≤ bx) (bx2 : bx ≤ 31) (by_1 : 0 ≤ by_) (by_2 : by_ ≤ 31) :
    Calls Try.prog 106 #[.int .i64 p, .int .i64 k, .agg #[.int .i64 ax, .int .i64 ay], .agg #[.int .i64 bx, .int .i64 by_]] w fun e w' => e = .returned (.int .i64 (Pl.prod p k ax ay bx by_)) ∧ Below w.heap.size w w' := by
  have h1 := Pl.mulB (show 0 ≤ ax by omega) (show ax ≤ 31 by omega) (show 0 ≤ bx by omega) (show bx ≤ 31 by omega)
  obtain ⟨h1a, h1b⟩ := h1
  have h2 := Pl.mulB (show 0 ≤ ay by omega) (show ay ≤ 31 by omega) (show 0 ≤ by_ by omega) (show by_ ≤ 31 by omega)
  obtain ⟨h2a, h2b⟩ := h2
  have h3 := Pl.mulB (show 0 ≤ ax by omega) (show ax ≤ 31 by omega) (show 0 ≤ by_ by omega) (show by_ ≤ 31 by omega)
  obtain ⟨h3a, h3b⟩ := h3
  have h4 := Pl.mulB (show 0 ≤ ay by omega) (show ay ≤ 31 by omega) (show 0 ≤ bx by omega) (show bx ≤ 31 by omega)
  obtain ⟨h4a, h4b⟩ := h4
  by_cases e0 : k = 0
  · have f0 : (k == 0) = true := by simpa using e0
    have e0h := hid e0
    clear e0
    go_enter Try.func106, Try.ntmps106
    go_wp2_with (go_at_call 71; refine (l01Mod_any _ _ _ hp1 (by omega)).mono ?_; rintro e w' ⟨rfl, rfl⟩)
    go_ret
    exact ⟨ret_int (Pl.prod_0 e0h.out).symm, by go_grown⟩
  · have f0 : (k == 0) = false := by simpa using e0
    by_cases e1 : k = 1
    · have f1 : (k == 1) = true := by simpa using e1
      have e1h := hid e1
      clear e1
      go_enter Try.func106, Try.ntmps106
      go_wp2_with (go_at_call 71; refine (l01Mod_any _ _ _ hp1 (by omega)).mono ?_; rintro e w' ⟨rfl, rfl⟩)
      go_ret
      exact ⟨ret_int (Pl.prod_1 e0 e1h.out).symm, by go_grown⟩
    · have f1 : (k == 1) = false := by simpa using e1
      go_enter Try.func106, Try.ntmps106
      go_wp2_with (go_at_call 71; refine (l01Mod_any _ _ _ hp1 (by omega)).mono ?_; rintro e w' ⟨rfl, rfl⟩)
      go_ret
      exact ⟨ret_int (Pl.prod_2 e0 e1).symm, by go_grown⟩
theorem isColour_any (k : Int) (w : World) : Calls Try.prog 75 #[.int .i64 k] w fun e w' => e = .returned (.bool (Pl.colB k)) ∧ w = w' := by
  unfold Pl.colB
  by_cases h : 0 ≤ k
  · go_enter Try.func75, Try.ntmps75
    go_wp2
    go_ret
    exact ⟨ret_bool (by simp [h]), rfl⟩
  · go_enter Try.func75, Try.ntmps75
    go_wp2
    go_ret
    exact ⟨ret_bool (by rw [decide_eq_false (by omega)]; rfl), rfl⟩
theorem l02Colour_any (k : Int) (w : World) : Calls Try.prog 117 #[.int .i64 k] w fun e w' => e = .returned (.bool (Pl.colB k)) ∧ w = w' := by
  go_enter Try.func117, Try.ntmps117
  go_wp2_with (go_at_call 160; refine (l01In_any _ _ _ _).mono ?_; rintro e w' ⟨rfl, rfl⟩)
  go_ret
  exact ⟨rfl, rfl⟩
theorem l02Code_any (p k : Int) (b off n c : Nat) (xs : List (Int × Int)) (hn : xs.length = n) (hm : n ≤ 1000) (w : World) (hb : b < w.heap.size)
    (hc : ∀ j, j < n → w.cell? ⟨b, off + j * 2, none⟩ = some (.int .i64 (xs.getD j (0, 0)).1) ∧ w.cell? ⟨b, off + j * 2 + 1, none⟩ = some (.int .i64 (xs.getD j (0, 0)).2)) :
    Calls Try.prog 103 #[.int .i64 p, .int .i64 k, .slice (some ⟨b, off, none⟩) n c] w fun e w' => e = .returned (.int .i64 (Pl.ask p (Pl.colB k && Pl.ptsB p xs))) ∧ Below w.heap.size w w' := by
  have H := hid (l01Code_any p b off n c xs hn hm w hb hc)
  clear hc hn
  by_cases h0 : Pl.ask p (Pl.ptsB p xs) = 0
  · cases hk : Pl.colB k with
    | true =>
      have hfin := hid (Pl.ask_and h0 hk)
      have hk2 : Pl.inB k 0 2 = true := hk
      go_enter Try.func103, Try.ntmps103
      go_wp2_with fail
      refine H.out.mono ?_
      rintro e w1 ⟨rfl, hB⟩
      clear H
      go_wp2_with (go_at_call 117; refine (l02Colour_any _ _).mono ?_; rintro e w' ⟨rfl, rfl⟩)
      go_ret
      exact ⟨ret_int (by rw [Bool.and_comm, ← hfin.out, hk]), hB⟩
    | false =>
      have hfin := hid (Pl.ask_and_f h0 hk)
      have hk2 : Pl.inB k 0 2 = false := hk
      go_enter Try.func103, Try.ntmps103
      go_wp2_with fail
      refine H.out.mono ?_
      rintro e w1 ⟨rfl, hB⟩
      clear H
      go_wp2_with (go_at_call 117; refine (l02Colour_any _ _).mono ?_; rintro e w' ⟨rfl, rfl⟩)
      go_ret
      exact ⟨ret_int (by rw [Bool.and_comm, ← hfin.out, hk]), hB⟩
  · have hne : (Pl.ask p (Pl.ptsB p xs) == 0) = false := by simpa using h0
    have hfin := hid (Pl.ask_and_n (b := Pl.colB k) h0)
    clear h0
    go_enter Try.func103, Try.ntmps103
    go_wp2_with fail
    refine H.out.mono ?_
    rintro e w1 ⟨rfl, hB⟩
    clear H
    go_wp2_with (go_at_call 117; refine (l02Colour_any _ _).mono ?_; rintro e w' ⟨rfl, rfl⟩)
    go_ret
    exact ⟨ret_int (by rw [Bool.and_comm]; exact hfin.out.symm), hB⟩
theorem l02Lines_any (p k : Int) (b off n c : Nat) (xs : List (Int × Int × Int)) (hn : xs.length = n) (hm : n ≤ 1000) (w : World) (hb : b < w.heap.size)
    (hc : ∀ j, j < n → w.cell? ⟨b, off + j * 3, none⟩ = some (.int .i64 (xs.getD j (0, 0, 0)).1) ∧ w.cell? ⟨b, off + j * 3 + 1, none⟩ = some (.int .i64 (xs.getD j (0, 0, 0)).2.1) ∧ w.cell? ⟨b, off + j * 3 + 2, none⟩ = some (.int .i64 (xs.getD j (0, 0, 0)).2.2)) :
    Calls Try.prog 129 #[.int .i64 p, .int .i64 k, .slice (some ⟨b, off, none⟩) n c] w fun e w' => e = .returned (.int .i64 (Pl.ask p (Pl.colB k && Pl.linesB p xs))) ∧ Below w.heap.size w w' := by
  have H := hid (l01Lines_any p b off n c xs hn hm w hb hc)
  clear hc hn
  by_cases h0 : Pl.ask p (Pl.linesB p xs) = 0
  · cases hk : Pl.colB k with
    | true =>
      have hfin := hid (Pl.ask_and h0 hk)
      have hk2 : Pl.inB k 0 2 = true := hk
      go_enter Try.func129, Try.ntmps129
      go_wp2_with fail
      refine H.out.mono ?_
      rintro e w1 ⟨rfl, hB⟩
      clear H
      go_wp2_with (go_at_call 117; refine (l02Colour_any _ _).mono ?_; rintro e w' ⟨rfl, rfl⟩)
      go_ret
      exact ⟨ret_int (by rw [Bool.and_comm, ← hfin.out, hk]), hB⟩
    | false =>
      have hfin := hid (Pl.ask_and_f h0 hk)
      have hk2 : Pl.inB k 0 2 = false := hk
      go_enter Try.func129, Try.ntmps129
      go_wp2_with fail
      refine H.out.mono ?_
      rintro e w1 ⟨rfl, hB⟩
      clear H
      go_wp2_with (go_at_call 117; refine (l02Colour_any _ _).mono ?_; rintro e w' ⟨rfl, rfl⟩)
      go_ret
      exact ⟨ret_int (by rw [Bool.and_comm, ← hfin.out, hk]), hB⟩
  · have hne : (Pl.ask p (Pl.linesB p xs) == 0) = false := by simpa using h0
    have hfin := hid (Pl.ask_and_n (b := Pl.colB k) h0)
    clear h0
    go_enter Try.func129, Try.ntmps129
    go_wp2_with fail
    refine H.out.mono ?_
    rintro e w1 ⟨rfl, hB⟩
    clear H
    go_wp2_with (go_at_call 117; refine (l02Colour_any _ _).mono ?_; rintro e w' ⟨rfl, rfl⟩)
    go_ret
    exact ⟨ret_int (by rw [Bool.and_comm]; exact hfin.out.symm), hB⟩
theorem l03Points_any (p k : Int) (b off n c : Nat) (xs : List (Int × Int)) (hn : xs.length = n) (hm : n ≤ 1000) (w : World) (hb : b < w.heap.size)
    (hc : ∀ j, j < n → w.cell? ⟨b, off + j * 2, none⟩ = some (.int .i64 (xs.getD j (0, 0)).1) ∧ w.cell? ⟨b, off + j * 2 + 1, none⟩ = some (.int .i64 (xs.getD j (0, 0)).2)) :
    Calls Try.prog 100 #[.int .i64 p, .int .i64 k, .slice (some ⟨b, off, none⟩) n c] w fun e w' => e = .returned (.int .i64 (Pl.ask p (Pl.colB k && Pl.ptsB p xs))) ∧ Below w.heap.size w w' := by
  have H := hid (l01Code_any p b off n c xs hn hm w hb hc)
  clear hc hn
  by_cases h0 : Pl.ask p (Pl.ptsB p xs) = 0
  · cases hk : Pl.colB k with
    | true =>
      have hfin := hid (Pl.ask_and h0 hk)
      have hk2 : Pl.inB k 0 2 = true := hk
      go_enter Try.func100, Try.ntmps100
      go_wp2_with fail
      refine H.out.mono ?_
      rintro e w1 ⟨rfl, hB⟩
      clear H
      go_wp2_with (go_at_call 160; refine (l01In_any _ _ _ _).mono ?_; rintro e w' ⟨rfl, rfl⟩)
      go_ret
      exact ⟨ret_int (by rw [Bool.and_comm, ← hfin.out, hk]), hB⟩
    | false =>
      have hfin := hid (Pl.ask_and_f h0 hk)
      have hk2 : Pl.inB k 0 2 = false := hk
      go_enter Try.func100, Try.ntmps100
      go_wp2_with fail
      refine H.out.mono ?_
      rintro e w1 ⟨rfl, hB⟩
      clear H
      go_wp2_with (go_at_call 160; refine (l01In_any _ _ _ _).mono ?_; rintro e w' ⟨rfl, rfl⟩)
      go_ret
      exact ⟨ret_int (by rw [Bool.and_comm, ← hfin.out, hk]), hB⟩
  · have hne : (Pl.ask p (Pl.ptsB p xs) == 0) = false := by simpa using h0
    have hfin := hid (Pl.ask_and_n (b := Pl.colB k) h0)
    clear h0
    go_enter Try.func100, Try.ntmps100
    go_wp2_with fail
    refine H.out.mono ?_
    rintro e w1 ⟨rfl, hB⟩
    clear H
    go_wp2_with (go_at_call 160; refine (l01In_any _ _ _ _).mono ?_; rintro e w' ⟨rfl, rfl⟩)
    go_ret
    exact ⟨ret_int (by rw [Bool.and_comm]; exact hfin.out.symm), hB⟩
theorem l03Colour_any (p k : Int) (b off n c : Nat) (xs : List (Int × Int × Int)) (hn : xs.length = n) (hm : n ≤ 1000) (w : World) (hb : b < w.heap.size)
    (hc : ∀ j, j < n → w.cell? ⟨b, off + j * 3, none⟩ = some (.int .i64 (xs.getD j (0, 0, 0)).1) ∧ w.cell? ⟨b, off + j * 3 + 1, none⟩ = some (.int .i64 (xs.getD j (0, 0, 0)).2.1) ∧ w.cell? ⟨b, off + j * 3 + 2, none⟩ = some (.int .i64 (xs.getD j (0, 0, 0)).2.2)) :
    Calls Try.prog 145 #[.int .i64 p, .int .i64 k, .slice (some ⟨b, off, none⟩) n c] w fun e w' => e = .returned (.int .i64 (Pl.ask p (Pl.colB k && Pl.linesB p xs))) ∧ Below w.heap.size w w' := by
  have H := hid (l01Lines_any p b off n c xs hn hm w hb hc)
  clear hc hn
  by_cases h0 : Pl.ask p (Pl.linesB p xs) = 0
  · cases hk : Pl.colB k with
    | true =>
      have hfin := hid (Pl.ask_and h0 hk)
      have hk2 : Pl.inB k 0 2 = true := hk
      go_enter Try.func145, Try.ntmps145
      go_wp2_with fail
      refine H.out.mono ?_
      rintro e w1 ⟨rfl, hB⟩
      clear H
      go_wp2_with (go_at_call 160; refine (l01In_any _ _ _ _).mono ?_; rintro e w' ⟨rfl, rfl⟩)
      go_ret
      exact ⟨ret_int (by rw [Bool.and_comm, ← hfin.out, hk]), hB⟩
    | false =>
      have hfin := hid (Pl.ask_and_f h0 hk)
      have hk2 : Pl.inB k 0 2 = false := hk
      go_enter Try.func145, Try.ntmps145
      go_wp2_with fail
      refine H.out.mono ?_
      rintro e w1 ⟨rfl, hB⟩
      clear H
      go_wp2_with (go_at_call 160; refine (l01In_any _ _ _ _).mono ?_; rintro e w' ⟨rfl, rfl⟩)
      go_ret
      exact ⟨ret_int (by rw [Bool.and_comm, ← hfin.out, hk]), hB⟩
  · have hne : (Pl.ask p (Pl.linesB p xs) == 0) = false := by simpa using h0
    have hfin := hid (Pl.ask_and_n (b := Pl.colB k) h0)
    clear h0
    go_enter Try.func145, Try.ntmps145
    go_wp2_with fail
    refine H.out.mono ?_
    rintro e w1 ⟨rfl, hB⟩
    clear H
    go_wp2_with (go_at_call 160; refine (l01In_any _ _ _ _).mono ?_; rintro e w' ⟨rfl, rfl⟩)
    go_ret
    exact ⟨ret_int (by rw [Bool.and_comm]; exact hfin.out.symm), hB⟩
theorem l01Both_any (p ax ay la lb lc : Int) (w : World) :
    Calls Try.prog 125 #[.int .i64 p, .agg #[.int .i64 ax, .int .i64 ay], .agg #[.int .i64 la, .int .i64 lb, .int .i64 lc]] w fun e w' => e = .returned (.int .i64 (Pl.ask p (Pl.ptB p ax ay && Pl.lineB p la lb lc))) ∧ Below w.heap.size w w' := by
  by_cases h0 : Pl.ask p (Pl.ptsB p [(ax, ay)]) = 0
  · have hv := hid (Pl.ask_ok h0)
    go_enter Try.func125, Try.ntmps125
    go_wp2_with fail
    refine (l01Code_any p _ 0 1 1 [(ax, ay)] rfl (by omega) _ (by simp) ?_).mono ?_
    · intro j hj
      match j, hj with
      | 0, _ => exact ⟨by go_simp, by go_simp⟩
    · rintro e w1 ⟨rfl, hb⟩
      have c0 : w1.cell? ⟨w.heap.size + 1, 0, none⟩ = some (.int .i64 la) := keepC hb (by go_simp)
      have c1 : w1.cell? ⟨w.heap.size + 1, 1, none⟩ = some (.int .i64 lb) := keepC hb (by go_simp)
      have c2 : w1.cell? ⟨w.heap.size + 1, 2, none⟩ = some (.int .i64 lc) := keepC hb (by go_simp)
      have hB : Below w.heap.size w w1 := below_of (by go_grown) hb (by simp <;> omega)
      clear hb
      go_wp2_with fail
      refine (l01Lines_any p _ 0 1 1 [(la, lb, lc)] rfl (by omega) _ (by simp) ?_).mono ?_
      · intro j hj
        match j, hj with
        | 0, _ => exact ⟨by go_simp, by go_simp, by go_simp⟩
      · rintro e w2 ⟨rfl, hb⟩
        have hB2 : Below w.heap.size w w2 := below_of (by have := hB.size; go_grown) hb (by have := hB.size; simp <;> omega)
        clear hb
        go_wp2_with fail
        go_ret
        exact ⟨ret_int (by have h := hv.out.2; rw [Pl.ptsB1] at h; rw [h, Pl.linesB1]; rfl), hB2⟩
  · have hne : (Pl.ask p (Pl.ptsB p [(ax, ay)]) != 0) = true := by simpa using h0
    have hfin := hid (Pl.ask_and_n (b := Pl.lineB p la lb lc) h0)
    clear h0
    go_enter Try.func125, Try.ntmps125
    go_wp2_with fail
    refine (l01Code_any p _ 0 1 1 [(ax, ay)] rfl (by omega) _ (by simp) ?_).mono ?_
    · intro j hj
      match j, hj with
      | 0, _ => exact ⟨by go_simp, by go_simp⟩
    · rintro e w1 ⟨rfl, hb⟩
      have hB : Below w.heap.size w w1 := below_of (by go_grown) hb (by simp <;> omega)
      clear hb
      go_wp2_with fail
      go_ret
      exact ⟨ret_int (by rw [← hfin.out, Pl.ptsB1]), hB⟩
end Go.Proofs.Ytbjcbbnfgfmllaa
