/- Contracts: draws of layer 1: one number, ratios, texts, combinations. -/
import Derived.Test.YtbjcbbnfgfmllaaGreatDoorDr11
import Derived.Deep.RegionHeld3
import Derived.Test.YtbjcbbnfgfmllaaGreatDoorBig
set_option linter.unusedVariables false
set_option linter.unusedSimpArgs false
set_option maxHeartbeats 4000000
set_option maxRecDepth 100000
namespace Go.Proofs.YtbjcbbnfgfmllaaGreatDoor
open Go.RowKit
theorem one1_any (v : Value) (w : World) (hv : Bytes w w.heap.size v) :
    Calls Tryz.prog 35 #[v] w fun e w' => (∃ o0 o1 : Int, e = .returned (.tuple #[.int .i64 o0, .int .i64 o1])) ∧ Below w.heap.size w w' := by
  obtain ⟨B, hBw⟩ : ∃ B, B = w.heap.size := ⟨_, rfl⟩
  have hv0 : Bytes w B v := by rw [hBw]; exact hv
  clear hv
  go_enter Tryz.func35, Tryz.ntmps35
  go_wp2_with fail
  have hB := Below.refl w.heap.size w
  refine (from_any v B w hv0 (by omega)).mono ?_
  rintro e w1 ⟨rfl, hs, hbn⟩
  have hG : w.grownBy w1 (some w.heap.size) := grown_below (below_of hB hbn hB.size)
  clear hB hbn hv0
  generalize hbs : w.heap.size = bs at *
  have hlow := hs.low
  go_wp2_with fail
  go_wp2_with fail
  refine (drawField_any B bs v _ hs).mono ?_
  rintro e w' ⟨⟨p, rfl, hpm⟩, hs', hG'⟩
  replace hs := hs'
  replace hG := grownBy_trans hG hG'
  clear hs' hG'
  have hf := field_of hpm
  have hp := Pl.field_bd hf
  obtain ⟨hp1, hp2⟩ := hp
  clear hpm
  go_wp2_with fail
  refine (near1_any (p - 1) (by omega) (by omega) B bs v _ hs).mono ?_
  rintro e w' ⟨⟨a, rfl⟩, hs', hG'⟩
  replace hs := hs'
  replace hG := grownBy_trans hG hG'
  clear hs' hG'
  go_wp2_with fail
  refine (badField_any p B bs v _ hs).mono ?_
  rintro e w' ⟨⟨uf, rfl⟩, hs', hG'⟩
  replace hs := hs'
  replace hG := grownBy_trans hG hG'
  clear hs' hG'
  go_wp2_with fail
  try simp only [Exit.inBlock, Exit.then]
  first | go_ret | go_ret2 | go_returns
  exact ⟨⟨_, _, rfl⟩, by have hBf := below_grown (Below.refl bs w) hG (by omega) (by omega); first | exact hBf | (rw [hbs]; exact hBf) | go_grown⟩
theorem drawRootOf_any (v : Value) (w : World) (hv : Bytes w w.heap.size v) :
    Calls Tryz.prog 5 #[v] w fun e w' => (∃ o0 o1 : Int, e = .returned (.tuple #[.int .i64 o0, .int .i64 o1])) ∧ Below w.heap.size w w' := by
  obtain ⟨B, hBw⟩ : ∃ B, B = w.heap.size := ⟨_, rfl⟩
  have hv0 : Bytes w B v := by rw [hBw]; exact hv
  clear hv
  go_enter Tryz.func5, Tryz.ntmps5
  go_wp2_with fail
  have hB := Below.refl w.heap.size w
  refine (one1_any v _ (hv0.raise (by omega))).mono ?_
  rintro e w1 ⟨⟨p, a, rfl⟩, hbn⟩
  have hsz0 := hbn.size
  replace hB := below_of hB hbn hB.size
  clear hbn hv0
  go_wp2_with fail
  try simp only [Exit.inBlock, Exit.then]
  first | go_ret | go_ret2 | go_returns
  exact ⟨⟨_, _, rfl⟩, by first | exact hB | (have := hB.size; go_grown)⟩
theorem drawRatioOf_any (v : Value) (w : World) (hv : Bytes w w.heap.size v) :
    Calls Tryz.prog 14 #[v] w fun e w' => (∃ o0 o1x o1y o2x o2y o3x o3y : Int, e = .returned (.tuple #[.int .i64 o0, .agg #[.int .i64 o1x, .int .i64 o1y], .agg #[.int .i64 o2x, .int .i64 o2y], .agg #[.int .i64 o3x, .int .i64 o3y]])) ∧ Below w.heap.size w w' := by
  obtain ⟨B, hBw⟩ : ∃ B, B = w.heap.size := ⟨_, rfl⟩
  have hv0 : Bytes w B v := by rw [hBw]; exact hv
  clear hv
  go_enter Tryz.func14, Tryz.ntmps14
  go_wp2_with fail
  generalize hW : (World.alloc (World.alloc (World.alloc w (.cells #[.int .i64 0, .int .i64 0] 29)) (.cells #[.int .i64 0, .int .i64 0] 29)) (.cells #[.int .i64 0, .int .i64 0] 29)) = W
  have dr00 : W.cell? ⟨w.heap.size, 0, none⟩ = some (.int .i64 0) := by subst hW; go_simp
  have gr00 : W.frozen? ⟨w.heap.size, 0, none⟩ = false := by subst hW; go_simp
  have dr01 : W.cell? ⟨w.heap.size, 1, none⟩ = some (.int .i64 0) := by subst hW; go_simp
  have gr01 : W.frozen? ⟨w.heap.size, 1, none⟩ = false := by subst hW; go_simp
  have dr10 : W.cell? ⟨w.heap.size + 1, 0, none⟩ = some (.int .i64 0) := by subst hW; go_simp
  have gr10 : W.frozen? ⟨w.heap.size + 1, 0, none⟩ = false := by subst hW; go_simp
  have dr11 : W.cell? ⟨w.heap.size + 1, 1, none⟩ = some (.int .i64 0) := by subst hW; go_simp
  have gr11 : W.frozen? ⟨w.heap.size + 1, 1, none⟩ = false := by subst hW; go_simp
  have dr20 : W.cell? ⟨w.heap.size + 1 + 1, 0, none⟩ = some (.int .i64 0) := by subst hW; go_simp
  have gr20 : W.frozen? ⟨w.heap.size + 1 + 1, 0, none⟩ = false := by subst hW; go_simp
  have dr21 : W.cell? ⟨w.heap.size + 1 + 1, 1, none⟩ = some (.int .i64 0) := by subst hW; go_simp
  have gr21 : W.frozen? ⟨w.heap.size + 1 + 1, 1, none⟩ = false := by subst hW; go_simp
  have hv1 : Bytes W B v := by subst hW; exact (((hv0).alloc _).alloc _).alloc _
  have hB : Below w.heap.size w W := by subst hW; go_grown
  have hbs : w.heap.size + 3 ≤ W.heap.size := by subst hW; simp
  clear hW hv0
  refine (three1_any v _ (hv1.raise (by omega))).mono ?_
  rintro e w1 ⟨⟨p, ax, ay, bx, by_, cx, cy, rfl⟩, hbn⟩
  replace gr00 := keepF hbn dr00 gr00
  replace gr01 := keepF hbn dr01 gr01
  replace gr10 := keepF hbn dr10 gr10
  replace gr11 := keepF hbn dr11 gr11
  replace gr20 := keepF hbn dr20 gr20
  replace gr21 := keepF hbn dr21 gr21
  replace dr00 := keepC hbn dr00
  replace dr01 := keepC hbn dr01
  replace dr10 := keepC hbn dr10
  replace dr11 := keepC hbn dr11
  replace dr20 := keepC hbn dr20
  replace dr21 := keepC hbn dr21
  have hsz0 := hbn.size
  replace hB := below_of hB hbn hB.size
  clear hbn hv1
  go_wp2_with fail
  generalize hW : (World.alloc (World.alloc (World.alloc w1 (.cells #[.int .i64 ax, .int .i64 ay] 29)) (.cells #[.int .i64 bx, .int .i64 by_] 29)) (.cells #[.int .i64 cx, .int .i64 cy] 29)) = W3
  have db000 : W3.cell? ⟨w1.heap.size, 0, none⟩ = some (.int .i64 ax) := by subst hW; go_simp
  have db001 : W3.cell? ⟨w1.heap.size, 1, none⟩ = some (.int .i64 ay) := by subst hW; go_simp
  have db010 : W3.cell? ⟨w1.heap.size + 1, 0, none⟩ = some (.int .i64 bx) := by subst hW; go_simp
  have db011 : W3.cell? ⟨w1.heap.size + 1, 1, none⟩ = some (.int .i64 by_) := by subst hW; go_simp
  have db020 : W3.cell? ⟨w1.heap.size + 1 + 1, 0, none⟩ = some (.int .i64 cx) := by subst hW; go_simp
  have db021 : W3.cell? ⟨w1.heap.size + 1 + 1, 1, none⟩ = some (.int .i64 cy) := by subst hW; go_simp
  have hbn : Below w1.heap.size w1 W3 := by subst hW; go_grown
  replace gr00 := keepF hbn dr00 gr00
  replace gr01 := keepF hbn dr01 gr01
  replace gr10 := keepF hbn dr10 gr10
  replace gr11 := keepF hbn dr11 gr11
  replace gr20 := keepF hbn dr20 gr20
  replace gr21 := keepF hbn dr21 gr21
  replace dr00 := keepC hbn dr00
  replace dr01 := keepC hbn dr01
  replace dr10 := keepC hbn dr10
  replace dr11 := keepC hbn dr11
  replace dr20 := keepC hbn dr20
  replace dr21 := keepC hbn dr21
  have hle0 := hB.size
  replace hB := below_of hB hbn hB.size
  clear hW hbn
  generalize w1.heap.size = r_0 at *
  clear w1
  have h_r0 : Res2 _ (w.heap.size) := ⟨World.block_lt_of_cell? _ _ dr00, ⟨_, dr00⟩, ⟨_, dr01⟩, fun j hj => by match j, hj with | 0, _ => exact gr00 | 1, _ => exact gr01⟩
  have h_r1 : Res2 _ (w.heap.size + 1) := ⟨World.block_lt_of_cell? _ _ dr10, ⟨_, dr10⟩, ⟨_, dr11⟩, fun j hj => by match j, hj with | 0, _ => exact gr10 | 1, _ => exact gr11⟩
  have h_r2 : Res2 _ (w.heap.size + 1 + 1) := ⟨World.block_lt_of_cell? _ _ dr20, ⟨_, dr20⟩, ⟨_, dr21⟩, fun j hj => by match j, hj with | 0, _ => exact gr20 | 1, _ => exact gr21⟩
  clear dr00 gr00 dr01 gr01 dr10 gr10 dr11 gr11 dr20 gr20 dr21 gr21
  refine Reg.wp_region_steps7 (by kernel_rfl) 8 (by kernel_rfl) (fun wq => Hid (Below w.heap.size w wq ∧ wq.cell? ⟨r_0, 0, none⟩ = some (.int .i64 ax) ∧ wq.cell? ⟨r_0, 1, none⟩ = some (.int .i64 ay) ∧ wq.cell? ⟨r_0 + 1, 0, none⟩ = some (.int .i64 bx) ∧ wq.cell? ⟨r_0 + 1, 1, none⟩ = some (.int .i64 by_) ∧ wq.cell? ⟨r_0 + 1 + 1, 0, none⟩ = some (.int .i64 cx) ∧ wq.cell? ⟨r_0 + 1 + 1, 1, none⟩ = some (.int .i64 cy) ∧ Res2 wq (w.heap.size) ∧ Res2 wq (w.heap.size + 1) ∧ Res2 wq (w.heap.size + 1 + 1))) [(fun v => v = .int .i64 p), (fun v => v = .agg #[.int .i64 ax, .int .i64 ay]), (fun v => v = .agg #[.int .i64 bx, .int .i64 by_]), (fun v => v = .agg #[.int .i64 cx, .int .i64 cy]), (fun v => v = .int .i64 p), Reg.anyV, Reg.anyV, Reg.anyV] (Reg.inh_cons ⟨_, rfl⟩ (Reg.inh_cons ⟨_, rfl⟩ (Reg.inh_cons ⟨_, rfl⟩ (Reg.inh_cons ⟨_, rfl⟩ (Reg.inh_cons ⟨_, rfl⟩ (Reg.inh_cons ⟨undef, trivial⟩ (Reg.inh_cons ⟨undef, trivial⟩ (Reg.inh_cons ⟨undef, trivial⟩ (Reg.inh_nil))))))))) ?_ ?_
  · exact hid ⟨hB.drew, keepC (Below.refl _ _).drew db000, keepC (Below.refl _ _).drew db001, keepC (Below.refl _ _).drew db010, keepC (Below.refl _ _).drew db011, keepC (Below.refl _ _).drew db020, keepC (Below.refl _ _).drew db021, h_r0.keep (Below.refl _ _).drew, h_r1.keep (Below.refl _ _).drew, h_r2.keep (Below.refl _ _).drew⟩
  clear hB db000 db001 db010 db011 db020 db021 h_r0 h_r1 h_r2
  simp only [List.take_succ_cons, List.take_zero, List.drop_succ_cons, List.drop_zero]
  refine Reg.wpS7_val (fun wq hq => ?gs1x0) ?ks1x0
  case gs1x0 => (obtain ⟨hB, db000, db001, db010, db011, db020, db021, h_r0, h_r1, h_r2⟩ := hq.out; go_simp; first | done | (with_reducible rfl) | rfl)
  try simp only [Act.put, List.setIfInBounds_toArray, List.set_cons_zero, List.set_cons_succ]
  refine Reg.wpS7_val (fun wq hq => ?gs1x1) ?ks1x1
  case gs1x1 => (obtain ⟨hB, db000, db001, db010, db011, db020, db021, h_r0, h_r1, h_r2⟩ := hq.out; go_simp; first | done | (with_reducible rfl) | rfl)
  try simp only [Act.put, List.setIfInBounds_toArray, List.set_cons_zero, List.set_cons_succ]
  refine Reg.wpS7_val (fun wq hq => ?gs1x2) ?ks1x2
  case gs1x2 => (obtain ⟨hB, db000, db001, db010, db011, db020, db021, h_r0, h_r1, h_r2⟩ := hq.out; go_simp; first | done | (with_reducible rfl) | rfl)
  try simp only [Act.put, List.setIfInBounds_toArray, List.set_cons_zero, List.set_cons_succ]
  refine Reg.wpS7_val (fun wq hq => ?gs1x3) ?ks1x3
  case gs1x3 => (obtain ⟨hB, db000, db001, db010, db011, db020, db021, h_r0, h_r1, h_r2⟩ := hq.out; go_simp; first | done | (with_reducible rfl) | rfl)
  try simp only [Act.put, List.setIfInBounds_toArray, List.set_cons_zero, List.set_cons_succ]
  refine Reg.wpS7_val (fun wq hq => ?gs1x4) ?ks1x4
  case gs1x4 => (obtain ⟨hB, db000, db001, db010, db011, db020, db021, h_r0, h_r1, h_r2⟩ := hq.out; go_simp; first | done | (with_reducible rfl) | rfl)
  try simp only [Act.put, List.setIfInBounds_toArray, List.set_cons_zero, List.set_cons_succ]
  refine Reg.wpS7_skip rfl (fun wq hq => ?gs1x5) ?ks1x5
  case gs1x5 =>
    obtain ⟨hB, db000, db001, db010, db011, db020, db021, h_r0, h_r1, h_r2⟩ := hq.out
    have hres := h_r0
    obtain ⟨_, ⟨x0, cc0⟩, ⟨x1, cc1⟩, hz⟩ := h_r0
    have ff0 := hz 0 (by omega)
    have ff1 := hz 1 (by omega)
    exact ⟨put2 wq (w.heap.size) (ax) (ay), by unfold put2; go_simp, hid ⟨below_put2 hB (by omega) _ _, cellP (put2_heap _ _ _ _) db000 (by dsimp only <;> omega), cellP (put2_heap _ _ _ _) db001 (by dsimp only <;> omega), cellP (put2_heap _ _ _ _) db010 (by dsimp only <;> omega), cellP (put2_heap _ _ _ _) db011 (by dsimp only <;> omega), cellP (put2_heap _ _ _ _) db020 (by dsimp only <;> omega), cellP (put2_heap _ _ _ _) db021 (by dsimp only <;> omega), hres.put _ _, h_r1.heap (by rw [put2_size]; exact Nat.le_refl _) (put2_heap _ _ _ _ _ (by omega)), h_r2.heap (by rw [put2_size]; exact Nat.le_refl _) (put2_heap _ _ _ _ _ (by omega))⟩⟩
  try simp only [Act.put, List.setIfInBounds_toArray, List.set_cons_zero, List.set_cons_succ]
  refine Reg.wpS7_skip rfl (fun wq hq => ?gs1x6) ?ks1x6
  case gs1x6 =>
    obtain ⟨hB, db000, db001, db010, db011, db020, db021, h_r0, h_r1, h_r2⟩ := hq.out
    have hres := h_r1
    obtain ⟨_, ⟨x0, cc0⟩, ⟨x1, cc1⟩, hz⟩ := h_r1
    have ff0 := hz 0 (by omega)
    have ff1 := hz 1 (by omega)
    exact ⟨put2 wq (w.heap.size + 1) (bx) (by_), by unfold put2; go_simp, hid ⟨below_put2 hB (by omega) _ _, cellP (put2_heap _ _ _ _) db000 (by dsimp only <;> omega), cellP (put2_heap _ _ _ _) db001 (by dsimp only <;> omega), cellP (put2_heap _ _ _ _) db010 (by dsimp only <;> omega), cellP (put2_heap _ _ _ _) db011 (by dsimp only <;> omega), cellP (put2_heap _ _ _ _) db020 (by dsimp only <;> omega), cellP (put2_heap _ _ _ _) db021 (by dsimp only <;> omega), h_r0.heap (by rw [put2_size]; exact Nat.le_refl _) (put2_heap _ _ _ _ _ (by omega)), hres.put _ _, h_r2.heap (by rw [put2_size]; exact Nat.le_refl _) (put2_heap _ _ _ _ _ (by omega))⟩⟩
  try simp only [Act.put, List.setIfInBounds_toArray, List.set_cons_zero, List.set_cons_succ]
  refine Reg.wpS7_skip rfl (fun wq hq => ?gs1x7) ?ks1x7
  case gs1x7 =>
    obtain ⟨hB, db000, db001, db010, db011, db020, db021, h_r0, h_r1, h_r2⟩ := hq.out
    have hres := h_r2
    obtain ⟨_, ⟨x0, cc0⟩, ⟨x1, cc1⟩, hz⟩ := h_r2
    have ff0 := hz 0 (by omega)
    have ff1 := hz 1 (by omega)
    exact ⟨put2 wq (w.heap.size + 1 + 1) (cx) (cy), by unfold put2; go_simp, hid ⟨below_put2 hB (by omega) _ _, cellP (put2_heap _ _ _ _) db000 (by dsimp only <;> omega), cellP (put2_heap _ _ _ _) db001 (by dsimp only <;> omega), cellP (put2_heap _ _ _ _) db010 (by dsimp only <;> omega), cellP (put2_heap _ _ _ _) db011 (by dsimp only <;> omega), cellP (put2_heap _ _ _ _) db020 (by dsimp only <;> omega), cellP (put2_heap _ _ _ _) db021 (by dsimp only <;> omega), h_r0.heap (by rw [put2_size]; exact Nat.le_refl _) (put2_heap _ _ _ _ _ (by omega)), h_r1.heap (by rw [put2_size]; exact Nat.le_refl _) (put2_heap _ _ _ _ _ (by omega)), hres.put _ _⟩⟩
  try simp only [Act.put, List.setIfInBounds_toArray, List.set_cons_zero, List.set_cons_succ]
  intro w2 hq
  obtain ⟨hB, db000, db001, db010, db011, db020, db021, h_r0, h_r1, h_r2⟩ := hq.out
  clear hq
  change wpList _ _ _ _ _ _
  obtain ⟨_, ⟨x00, cr00⟩, ⟨x01, cr01⟩, _⟩ := h_r0
  obtain ⟨_, ⟨x10, cr10⟩, ⟨x11, cr11⟩, _⟩ := h_r1
  obtain ⟨_, ⟨x20, cr20⟩, ⟨x21, cr21⟩, _⟩ := h_r2
  go_wp2_with fail
  try simp only [Exit.inBlock, Exit.then]
  refine bodyPost_ret (by simp [results, Tryz.results14, go_sem, cr00, cr01, cr10, cr11, cr20, cr21]; try rfl) rfl ?_
  exact ⟨⟨_, _, _, _, _, _, _, rfl⟩, by first | exact hB | go_grown⟩
theorem drawPointText_any (v : Value) (w : World) (hv : Bytes w w.heap.size v) :
    Calls Tryz.prog 21 #[v] w fun e w' => (∃ o0 o1x o1y : Int, e = .returned (.tuple #[.int .i64 o0, .agg #[.int .i64 o1x, .int .i64 o1y]])) ∧ Below w.heap.size w w' := by
  obtain ⟨B, hBw⟩ : ∃ B, B = w.heap.size := ⟨_, rfl⟩
  have hv0 : Bytes w B v := by rw [hBw]; exact hv
  clear hv
  go_enter Tryz.func21, Tryz.ntmps21
  go_wp2_with fail
  generalize hW : (World.alloc w (.cells #[.int .i64 0, .int .i64 0] 29)) = W
  have dr00 : W.cell? ⟨w.heap.size, 0, none⟩ = some (.int .i64 0) := by subst hW; go_simp
  have gr00 : W.frozen? ⟨w.heap.size, 0, none⟩ = false := by subst hW; go_simp
  have dr01 : W.cell? ⟨w.heap.size, 1, none⟩ = some (.int .i64 0) := by subst hW; go_simp
  have gr01 : W.frozen? ⟨w.heap.size, 1, none⟩ = false := by subst hW; go_simp
  have hv1 : Bytes W B v := by subst hW; exact (hv0).alloc _
  have hB : Below w.heap.size w W := by subst hW; go_grown
  have hbs : w.heap.size + 1 ≤ W.heap.size := by subst hW; simp
  clear hW hv0
  refine (flag1_any v _ (hv1.raise (by omega))).mono ?_
  rintro e w1 ⟨⟨p, ax, ay, la, lb, lc, rfl⟩, hbn⟩
  replace gr00 := keepF hbn dr00 gr00
  replace gr01 := keepF hbn dr01 gr01
  replace dr00 := keepC hbn dr00
  replace dr01 := keepC hbn dr01
  have hsz0 := hbn.size
  replace hB := below_of hB hbn hB.size
  clear hbn hv1
  go_wp2_with fail
  generalize hW : (World.alloc (World.alloc w1 (.cells #[.int .i64 ax, .int .i64 ay] 29)) (.cells #[.int .i64 la, .int .i64 lb, .int .i64 lc] 44)) = W3
  have db000 : W3.cell? ⟨w1.heap.size, 0, none⟩ = some (.int .i64 ax) := by subst hW; go_simp
  have db001 : W3.cell? ⟨w1.heap.size, 1, none⟩ = some (.int .i64 ay) := by subst hW; go_simp
  have db010 : W3.cell? ⟨w1.heap.size + 1, 0, none⟩ = some (.int .i64 la) := by subst hW; go_simp
  have db011 : W3.cell? ⟨w1.heap.size + 1, 1, none⟩ = some (.int .i64 lb) := by subst hW; go_simp
  have db012 : W3.cell? ⟨w1.heap.size + 1, 2, none⟩ = some (.int .i64 lc) := by subst hW; go_simp
  have hbn : Below w1.heap.size w1 W3 := by subst hW; go_grown
  replace gr00 := keepF hbn dr00 gr00
  replace gr01 := keepF hbn dr01 gr01
  replace dr00 := keepC hbn dr00
  replace dr01 := keepC hbn dr01
  have hle0 := hB.size
  replace hB := below_of hB hbn hB.size
  clear hW hbn
  generalize w1.heap.size = r_0 at *
  clear w1
  have h_r0 : Res2 _ (w.heap.size) := ⟨World.block_lt_of_cell? _ _ dr00, ⟨_, dr00⟩, ⟨_, dr01⟩, fun j hj => by match j, hj with | 0, _ => exact gr00 | 1, _ => exact gr01⟩
  clear dr00 gr00 dr01 gr01
  refine Reg.wp_region_steps7 (by kernel_rfl) 4 (by kernel_rfl) (fun wq => Hid (Below w.heap.size w wq ∧ wq.cell? ⟨r_0, 0, none⟩ = some (.int .i64 ax) ∧ wq.cell? ⟨r_0, 1, none⟩ = some (.int .i64 ay) ∧ wq.cell? ⟨r_0 + 1, 0, none⟩ = some (.int .i64 la) ∧ wq.cell? ⟨r_0 + 1, 1, none⟩ = some (.int .i64 lb) ∧ wq.cell? ⟨r_0 + 1, 2, none⟩ = some (.int .i64 lc) ∧ Res2 wq (w.heap.size))) [(fun v => v = .int .i64 p), (fun v => v = .agg #[.int .i64 ax, .int .i64 ay]), (fun v => v = .int .i64 p), Reg.anyV] (Reg.inh_cons ⟨_, rfl⟩ (Reg.inh_cons ⟨_, rfl⟩ (Reg.inh_cons ⟨_, rfl⟩ (Reg.inh_cons ⟨undef, trivial⟩ (Reg.inh_nil))))) ?_ ?_
  · exact hid ⟨hB.drew, keepC (Below.refl _ _).drew db000, keepC (Below.refl _ _).drew db001, keepC (Below.refl _ _).drew db010, keepC (Below.refl _ _).drew db011, keepC (Below.refl _ _).drew db012, h_r0.keep (Below.refl _ _).drew⟩
  clear hB db000 db001 db010 db011 db012 h_r0
  simp only [List.take_succ_cons, List.take_zero, List.drop_succ_cons, List.drop_zero]
  refine Reg.wpS7_val (fun wq hq => ?gs2x0) ?ks2x0
  case gs2x0 => (obtain ⟨hB, db000, db001, db010, db011, db012, h_r0⟩ := hq.out; go_simp; first | done | (with_reducible rfl) | rfl)
  try simp only [Act.put, List.setIfInBounds_toArray, List.set_cons_zero, List.set_cons_succ]
  refine Reg.wpS7_val (fun wq hq => ?gs2x1) ?ks2x1
  case gs2x1 => (obtain ⟨hB, db000, db001, db010, db011, db012, h_r0⟩ := hq.out; go_simp; first | done | (with_reducible rfl) | rfl)
  try simp only [Act.put, List.setIfInBounds_toArray, List.set_cons_zero, List.set_cons_succ]
  refine Reg.wpS7_val (fun wq hq => ?gs2x2) ?ks2x2
  case gs2x2 => (obtain ⟨hB, db000, db001, db010, db011, db012, h_r0⟩ := hq.out; go_simp; first | done | (with_reducible rfl) | rfl)
  try simp only [Act.put, List.setIfInBounds_toArray, List.set_cons_zero, List.set_cons_succ]
  refine Reg.wpS7_skip rfl (fun wq hq => ?gs2x3) ?ks2x3
  case gs2x3 =>
    obtain ⟨hB, db000, db001, db010, db011, db012, h_r0⟩ := hq.out
    have hres := h_r0
    obtain ⟨_, ⟨x0, cc0⟩, ⟨x1, cc1⟩, hz⟩ := h_r0
    have ff0 := hz 0 (by omega)
    have ff1 := hz 1 (by omega)
    exact ⟨put2 wq (w.heap.size) (ax) (ay), by unfold put2; go_simp, hid ⟨below_put2 hB (by omega) _ _, cellP (put2_heap _ _ _ _) db000 (by dsimp only <;> omega), cellP (put2_heap _ _ _ _) db001 (by dsimp only <;> omega), cellP (put2_heap _ _ _ _) db010 (by dsimp only <;> omega), cellP (put2_heap _ _ _ _) db011 (by dsimp only <;> omega), cellP (put2_heap _ _ _ _) db012 (by dsimp only <;> omega), hres.put _ _⟩⟩
  try simp only [Act.put, List.setIfInBounds_toArray, List.set_cons_zero, List.set_cons_succ]
  intro w2 hq
  obtain ⟨hB, db000, db001, db010, db011, db012, h_r0⟩ := hq.out
  clear hq
  change wpList _ _ _ _ _ _
  obtain ⟨_, ⟨x00, cr00⟩, ⟨x01, cr01⟩, _⟩ := h_r0
  go_wp2_with fail
  try simp only [Exit.inBlock, Exit.then]
  refine bodyPost_ret (by simp [results, Tryz.results21, go_sem, cr00, cr01]; try rfl) rfl ?_
  exact ⟨⟨_, _, _, rfl⟩, by first | exact hB | go_grown⟩
theorem drawLineText_any (v : Value) (w : World) (hv : Bytes w w.heap.size v) :
    Calls Tryz.prog 25 #[v] w fun e w' => (∃ o0 o1a o1b o1c : Int, e = .returned (.tuple #[.int .i64 o0, .agg #[.int .i64 o1a, .int .i64 o1b, .int .i64 o1c]])) ∧ Below w.heap.size w w' := by
  obtain ⟨B, hBw⟩ : ∃ B, B = w.heap.size := ⟨_, rfl⟩
  have hv0 : Bytes w B v := by rw [hBw]; exact hv
  clear hv
  go_enter Tryz.func25, Tryz.ntmps25
  go_wp2_with fail
  generalize hW : (World.alloc w (.cells #[.int .i64 0, .int .i64 0, .int .i64 0] 44)) = W
  have dr00 : W.cell? ⟨w.heap.size, 0, none⟩ = some (.int .i64 0) := by subst hW; go_simp
  have gr00 : W.frozen? ⟨w.heap.size, 0, none⟩ = false := by subst hW; go_simp
  have dr01 : W.cell? ⟨w.heap.size, 1, none⟩ = some (.int .i64 0) := by subst hW; go_simp
  have gr01 : W.frozen? ⟨w.heap.size, 1, none⟩ = false := by subst hW; go_simp
  have dr02 : W.cell? ⟨w.heap.size, 2, none⟩ = some (.int .i64 0) := by subst hW; go_simp
  have gr02 : W.frozen? ⟨w.heap.size, 2, none⟩ = false := by subst hW; go_simp
  have hv1 : Bytes W B v := by subst hW; exact (hv0).alloc _
  have hB : Below w.heap.size w W := by subst hW; go_grown
  have hbs : w.heap.size + 1 ≤ W.heap.size := by subst hW; simp
  clear hW hv0
  refine (flag1_any v _ (hv1.raise (by omega))).mono ?_
  rintro e w1 ⟨⟨p, ax, ay, la, lb, lc, rfl⟩, hbn⟩
  replace gr00 := keepF hbn dr00 gr00
  replace gr01 := keepF hbn dr01 gr01
  replace gr02 := keepF hbn dr02 gr02
  replace dr00 := keepC hbn dr00
  replace dr01 := keepC hbn dr01
  replace dr02 := keepC hbn dr02
  have hsz0 := hbn.size
  replace hB := below_of hB hbn hB.size
  clear hbn hv1
  go_wp2_with fail
  generalize hW : (World.alloc (World.alloc w1 (.cells #[.int .i64 ax, .int .i64 ay] 29)) (.cells #[.int .i64 la, .int .i64 lb, .int .i64 lc] 44)) = W3
  have db000 : W3.cell? ⟨w1.heap.size, 0, none⟩ = some (.int .i64 ax) := by subst hW; go_simp
  have db001 : W3.cell? ⟨w1.heap.size, 1, none⟩ = some (.int .i64 ay) := by subst hW; go_simp
  have db010 : W3.cell? ⟨w1.heap.size + 1, 0, none⟩ = some (.int .i64 la) := by subst hW; go_simp
  have db011 : W3.cell? ⟨w1.heap.size + 1, 1, none⟩ = some (.int .i64 lb) := by subst hW; go_simp
  have db012 : W3.cell? ⟨w1.heap.size + 1, 2, none⟩ = some (.int .i64 lc) := by subst hW; go_simp
  have hbn : Below w1.heap.size w1 W3 := by subst hW; go_grown
  replace gr00 := keepF hbn dr00 gr00
  replace gr01 := keepF hbn dr01 gr01
  replace gr02 := keepF hbn dr02 gr02
  replace dr00 := keepC hbn dr00
  replace dr01 := keepC hbn dr01
  replace dr02 := keepC hbn dr02
  have hle0 := hB.size
  replace hB := below_of hB hbn hB.size
  clear hW hbn
  generalize w1.heap.size = r_0 at *
  clear w1
  have h_r0 : Res3 _ (w.heap.size) := ⟨World.block_lt_of_cell? _ _ dr00, ⟨_, dr00⟩, ⟨_, dr01⟩, ⟨_, dr02⟩, fun j hj => by match j, hj with | 0, _ => exact gr00 | 1, _ => exact gr01 | 2, _ => exact gr02⟩
  clear dr00 gr00 dr01 gr01 dr02 gr02
  refine Reg.wp_region_steps7 (by kernel_rfl) 4 (by kernel_rfl) (fun wq => Hid (Below w.heap.size w wq ∧ wq.cell? ⟨r_0, 0, none⟩ = some (.int .i64 ax) ∧ wq.cell? ⟨r_0, 1, none⟩ = some (.int .i64 ay) ∧ wq.cell? ⟨r_0 + 1, 0, none⟩ = some (.int .i64 la) ∧ wq.cell? ⟨r_0 + 1, 1, none⟩ = some (.int .i64 lb) ∧ wq.cell? ⟨r_0 + 1, 2, none⟩ = some (.int .i64 lc) ∧ Res3 wq (w.heap.size))) [(fun v => v = .int .i64 p), (fun v => v = .agg #[.int .i64 la, .int .i64 lb, .int .i64 lc]), (fun v => v = .int .i64 p), Reg.anyV] (Reg.inh_cons ⟨_, rfl⟩ (Reg.inh_cons ⟨_, rfl⟩ (Reg.inh_cons ⟨_, rfl⟩ (Reg.inh_cons ⟨undef, trivial⟩ (Reg.inh_nil))))) ?_ ?_
  · exact hid ⟨hB.drew, keepC (Below.refl _ _).drew db000, keepC (Below.refl _ _).drew db001, keepC (Below.refl _ _).drew db010, keepC (Below.refl _ _).drew db011, keepC (Below.refl _ _).drew db012, h_r0.keep (Below.refl _ _).drew⟩
  clear hB db000 db001 db010 db011 db012 h_r0
  simp only [List.take_succ_cons, List.take_zero, List.drop_succ_cons, List.drop_zero]
  refine Reg.wpS7_val (fun wq hq => ?gs3x0) ?ks3x0
  case gs3x0 => (obtain ⟨hB, db000, db001, db010, db011, db012, h_r0⟩ := hq.out; go_simp; first | done | (with_reducible rfl) | rfl)
  try simp only [Act.put, List.setIfInBounds_toArray, List.set_cons_zero, List.set_cons_succ]
  refine Reg.wpS7_val (fun wq hq => ?gs3x1) ?ks3x1
  case gs3x1 => (obtain ⟨hB, db000, db001, db010, db011, db012, h_r0⟩ := hq.out; go_simp; first | done | (with_reducible rfl) | rfl)
  try simp only [Act.put, List.setIfInBounds_toArray, List.set_cons_zero, List.set_cons_succ]
  refine Reg.wpS7_val (fun wq hq => ?gs3x2) ?ks3x2
  case gs3x2 => (obtain ⟨hB, db000, db001, db010, db011, db012, h_r0⟩ := hq.out; go_simp; first | done | (with_reducible rfl) | rfl)
  try simp only [Act.put, List.setIfInBounds_toArray, List.set_cons_zero, List.set_cons_succ]
  refine Reg.wpS7_skip rfl (fun wq hq => ?gs3x3) ?ks3x3
  case gs3x3 =>
    obtain ⟨hB, db000, db001, db010, db011, db012, h_r0⟩ := hq.out
    have hres := h_r0
    obtain ⟨_, ⟨x0, cc0⟩, ⟨x1, cc1⟩, ⟨x2, cc2⟩, hz⟩ := h_r0
    have ff0 := hz 0 (by omega)
    have ff1 := hz 1 (by omega)
    have ff2 := hz 2 (by omega)
    exact ⟨put3 wq (w.heap.size) (la) (lb) (lc), by unfold put3; go_simp, hid ⟨below_put3 hB (by omega) _ _ _, cellP (put3_heap _ _ _ _ _) db000 (by dsimp only <;> omega), cellP (put3_heap _ _ _ _ _) db001 (by dsimp only <;> omega), cellP (put3_heap _ _ _ _ _) db010 (by dsimp only <;> omega), cellP (put3_heap _ _ _ _ _) db011 (by dsimp only <;> omega), cellP (put3_heap _ _ _ _ _) db012 (by dsimp only <;> omega), hres.put _ _ _⟩⟩
  try simp only [Act.put, List.setIfInBounds_toArray, List.set_cons_zero, List.set_cons_succ]
  intro w2 hq
  obtain ⟨hB, db000, db001, db010, db011, db012, h_r0⟩ := hq.out
  clear hq
  change wpList _ _ _ _ _ _
  obtain ⟨_, ⟨x00, cr00⟩, ⟨x01, cr01⟩, ⟨x02, cr02⟩, _⟩ := h_r0
  go_wp2_with fail
  try simp only [Exit.inBlock, Exit.then]
  refine bodyPost_ret (by simp [results, Tryz.results25, go_sem, cr00, cr01, cr02]; try rfl) rfl ?_
  exact ⟨⟨_, _, _, _, rfl⟩, by first | exact hB | go_grown⟩
theorem drawCombinationOf_any (v : Value) (w : World) (hv : Bytes w w.heap.size v) :
    Calls Tryz.prog 33 #[v] w fun e w' => (∃ o0 o1x o1y o2x o2y o3 : Int, e = .returned (.tuple #[.int .i64 o0, .agg #[.int .i64 o1x, .int .i64 o1y], .agg #[.int .i64 o2x, .int .i64 o2y], .int .i64 o3])) ∧ Below w.heap.size w w' := by
  obtain ⟨B, hBw⟩ : ∃ B, B = w.heap.size := ⟨_, rfl⟩
  have hv0 : Bytes w B v := by rw [hBw]; exact hv
  clear hv
  go_enter Tryz.func33, Tryz.ntmps33
  go_wp2_with fail
  generalize hW : (World.alloc (World.alloc w (.cells #[.int .i64 0, .int .i64 0] 29)) (.cells #[.int .i64 0, .int .i64 0] 29)) = W
  have dr00 : W.cell? ⟨w.heap.size, 0, none⟩ = some (.int .i64 0) := by subst hW; go_simp
  have gr00 : W.frozen? ⟨w.heap.size, 0, none⟩ = false := by subst hW; go_simp
  have dr01 : W.cell? ⟨w.heap.size, 1, none⟩ = some (.int .i64 0) := by subst hW; go_simp
  have gr01 : W.frozen? ⟨w.heap.size, 1, none⟩ = false := by subst hW; go_simp
  have dr10 : W.cell? ⟨w.heap.size + 1, 0, none⟩ = some (.int .i64 0) := by subst hW; go_simp
  have gr10 : W.frozen? ⟨w.heap.size + 1, 0, none⟩ = false := by subst hW; go_simp
  have dr11 : W.cell? ⟨w.heap.size + 1, 1, none⟩ = some (.int .i64 0) := by subst hW; go_simp
  have gr11 : W.frozen? ⟨w.heap.size + 1, 1, none⟩ = false := by subst hW; go_simp
  have hv1 : Bytes W B v := by subst hW; exact ((hv0).alloc _).alloc _
  have hB : Below w.heap.size w W := by subst hW; go_grown
  have hbs : w.heap.size + 2 ≤ W.heap.size := by subst hW; simp
  clear hW
  have hv2 : Hid (Bytes w w.heap.size v) := by rw [← hBw]; exact hid hv0
  clear hv0
  refine (three1_any v _ (hv1.raise (by omega))).mono ?_
  rintro e w1 ⟨⟨p, ax, ay, bx, by_, cx, cy, rfl⟩, hbn⟩
  replace gr00 := keepF hbn dr00 gr00
  replace gr01 := keepF hbn dr01 gr01
  replace gr10 := keepF hbn dr10 gr10
  replace gr11 := keepF hbn dr11 gr11
  replace dr00 := keepC hbn dr00
  replace dr01 := keepC hbn dr01
  replace dr10 := keepC hbn dr10
  replace dr11 := keepC hbn dr11
  have hsz0 := hbn.size
  replace hB := below_of hB hbn hB.size
  clear hbn hv1
  go_wp2_with fail
  generalize hW : (World.alloc (World.alloc (World.alloc w1 (.cells #[.int .i64 ax, .int .i64 ay] 29)) (.cells #[.int .i64 bx, .int .i64 by_] 29)) (.cells #[.int .i64 cx, .int .i64 cy] 29)) = W3
  have db000 : W3.cell? ⟨w1.heap.size, 0, none⟩ = some (.int .i64 ax) := by subst hW; go_simp
  have db001 : W3.cell? ⟨w1.heap.size, 1, none⟩ = some (.int .i64 ay) := by subst hW; go_simp
  have db010 : W3.cell? ⟨w1.heap.size + 1, 0, none⟩ = some (.int .i64 bx) := by subst hW; go_simp
  have db011 : W3.cell? ⟨w1.heap.size + 1, 1, none⟩ = some (.int .i64 by_) := by subst hW; go_simp
  have db020 : W3.cell? ⟨w1.heap.size + 1 + 1, 0, none⟩ = some (.int .i64 cx) := by subst hW; go_simp
  have db021 : W3.cell? ⟨w1.heap.size + 1 + 1, 1, none⟩ = some (.int .i64 cy) := by subst hW; go_simp
  have hbn : Below w1.heap.size w1 W3 := by subst hW; go_grown
  replace gr00 := keepF hbn dr00 gr00
  replace gr01 := keepF hbn dr01 gr01
  replace gr10 := keepF hbn dr10 gr10
  replace gr11 := keepF hbn dr11 gr11
  replace dr00 := keepC hbn dr00
  replace dr01 := keepC hbn dr01
  replace dr10 := keepC hbn dr10
  replace dr11 := keepC hbn dr11
  have hle0 := hB.size
  replace hB := below_of hB hbn hB.size
  clear hW hbn
  generalize w1.heap.size = r_0 at *
  clear w1
  have hBh := hid hB
  have hbsz := hB.size
  have hn1 : ¬ w.heap.size = r_0 := by omega
  have hn2 : ¬ w.heap.size = r_0 + 1 := by omega
  have hn3 : ¬ w.heap.size + 1 = r_0 := by omega
  have hn4 : ¬ r_0 = w.heap.size := by omega
  have hn5 : ¬ r_0 + 1 = w.heap.size := by omega
  have hn6 : ¬ r_0 = w.heap.size + 1 := by omega
  go_region_held3 (fun w' => w'.cell? ⟨r_0, 0, none⟩ = some (.int .i64 ax) ∧ w'.cell? ⟨r_0, 1, none⟩ = some (.int .i64 ay) ∧ w'.cell? ⟨r_0 + 1, 0, none⟩ = some (.int .i64 bx) ∧ w'.cell? ⟨r_0 + 1, 1, none⟩ = some (.int .i64 by_)) (first | exact ⟨db000, db001, db010, db011⟩ | exact ⟨keepC hbn db000, keepC hbn db001, keepC hbn db010, keepC hbn db011⟩ | exact ⟨keepC hbn6 db000, keepC hbn6 db001, keepC hbn6 db010, keepC hbn6 db011⟩ | (refine ⟨?_, ?_, ?_, ?_⟩ <;> (simp [World.cell?_setCell_other, hn1, hn2, hn3, hn4, hn5, hn6, db000, db001, db010, db011]; done))) (first | (go_at_call 72; refine (from_any v w.heap.size _ (hv2.out.below hBh.out.drew) hBh.out.drew.size).mono ?_; rintro e w5 ⟨rfl, hs, hbn⟩) | (go_at_call 81; refine (near1_any 2 (by omega) (by omega) w.heap.size _ v _ hs).mono ?_; rintro e w6 ⟨⟨t, rfl⟩, hs6, hG6⟩; have hbn6 := below_grown hbn hG6 hbn.size (Nat.le_refl _); replace gr00 := keepF (w := W3.drew) hbn6 dr00 gr00; replace gr01 := keepF (w := W3.drew) hbn6 dr01 gr01; replace gr10 := keepF (w := W3.drew) hbn6 dr10 gr10; replace gr11 := keepF (w := W3.drew) hbn6 dr11 gr11; replace dr00 := keepC (w := W3.drew) hbn6 dr00; replace dr01 := keepC (w := W3.drew) hbn6 dr01; replace dr10 := keepC (w := W3.drew) hbn6 dr10; replace dr11 := keepC (w := W3.drew) hbn6 dr11; replace db000 := keepC (w := W3.drew) hbn6 db000; replace db001 := keepC (w := W3.drew) hbn6 db001; replace db010 := keepC (w := W3.drew) hbn6 db010; replace db011 := keepC (w := W3.drew) hbn6 db011; replace db020 := keepC (w := W3.drew) hbn6 db020; replace db021 := keepC (w := W3.drew) hbn6 db021; replace hB := below_of (a := w) (B := w.heap.size) hBh.out.drew hbn6 hBh.out.drew.size))
  all_goals
    go_wp2_with fail
    try simp only [Exit.inBlock, Exit.then]
    refine bodyPost_ret (by simp [results, Tryz.results33, go_sem, dr00, gr00, dr01, gr01, dr10, gr10, dr11, gr11]; try rfl) rfl ?_
    exact ⟨⟨_, _, _, _, _, _, rfl⟩, by go_grown⟩
end Go.Proofs.YtbjcbbnfgfmllaaGreatDoor
