/- Contracts: draws of layer 1: the callers. -/
import Derived.Test.YtbjcbbnfgfmllaaGreatDr11
set_option linter.unusedVariables false
set_option linter.unusedSimpArgs false
set_option maxHeartbeats 1000000
set_option maxRecDepth 100000
namespace Go.Proofs.YtbjcbbnfgfmllaaGreat
open Go.RowKit
theorem drawLineThrough_any (v : Value) (w : World) (hv : Bytes w w.heap.size v) :
    Calls Tryz.prog 5 #[v] w fun e w' => (∃ o0 o1x o1y o2x o2y : Int, e = .returned (.tuple #[.int .i64 o0, .agg #[.int .i64 o1x, .int .i64 o1y], .agg #[.int .i64 o2x, .int .i64 o2y]])) ∧ Below w.heap.size w w' := by
  obtain ⟨B, hBw⟩ : ∃ B, B = w.heap.size := ⟨_, rfl⟩
  have hv0 : Bytes w B v := by rw [hBw]; exact hv
  clear hv
  go_enter Tryz.func5, Tryz.ntmps5
  go_wp2_with fail
  generalize hW : (World.alloc (World.alloc w (.cells #[.int .i64 0, .int .i64 0] 25)) (.cells #[.int .i64 0, .int .i64 0] 25)) = W
  have dr00 : W.cell? ⟨w.heap.size, 0, none⟩ = some (.int .i64 0) := by subst hW; go_simp
  have gr00 : W.frozen? ⟨w.heap.size, 0, none⟩ = false := by subst hW; go_simp
  have dr01 : W.cell? ⟨w.heap.size, 1, none⟩ = some (.int .i64 0) := by subst hW; go_simp
  have gr01 : W.frozen? ⟨w.heap.size, 1, none⟩ = false := by subst hW; go_simp
  have dr10 : W.cell? ⟨w.heap.size + 1, 0, none⟩ = some (.int .i64 0) := by subst hW; go_simp
  have gr10 : W.frozen? ⟨w.heap.size + 1, 0, none⟩ = false := by subst hW; go_simp
  have dr11 : W.cell? ⟨w.heap.size + 1, 1, none⟩ = some (.int .i64 0) := by subst hW; go_simp
  have gr11 : W.frozen? ⟨w.heap.size + 1, 1, none⟩ = false := by subst hW; go_simp
  have hv1 : Bytes W B v := by subst hW; exact ((hv0).alloc _).alloc _
  have hB : Below w.heap.size w W := by subst hW; go_grown
  have hbs : w.heap.size + 2 ≤ W.heap.size := by subst hW; simp
  clear hW hv0
  refine (three1_any v _ (hv1.raise (by omega))).mono ?_
  rintro e w1 ⟨⟨p, ax, ay, bx, by_, cx, cy, rfl⟩, hbn⟩
  replace gr00 := keepF hbn dr00 gr00
  replace gr01 := keepF hbn dr01 gr01
  replace gr10 := keepF hbn dr10 gr10
  replace gr11 := keepF hbn dr11 gr11
  replace dr00 := keepC hbn dr00
  replace dr01 := keepC hbn dr01
  replace dr10 := keepC hbn dr10
  replace dr11 := keepC hbn dr11
  have hsz0 := hbn.size
  replace hB := below_of hB hbn hB.size
  clear hbn hv1
  go_wp2_with fail
  generalize hW : (World.alloc (World.alloc (World.alloc w1 (.cells #[.int .i64 ax, .int .i64 ay] 25)) (.cells #[.int .i64 bx, .int .i64 by_] 25)) (.cells #[.int .i64 cx, .int .i64 cy] 25)) = W3
  have db000 : W3.cell? ⟨w1.heap.size, 0, none⟩ = some (.int .i64 ax) := by subst hW; go_simp
  have db001 : W3.cell? ⟨w1.heap.size, 1, none⟩ = some (.int .i64 ay) := by subst hW; go_simp
  have db010 : W3.cell? ⟨w1.heap.size + 1, 0, none⟩ = some (.int .i64 bx) := by subst hW; go_simp
  have db011 : W3.cell? ⟨w1.heap.size + 1, 1, none⟩ = some (.int .i64 by_) := by subst hW; go_simp
  have db020 : W3.cell? ⟨w1.heap.size + 1 + 1, 0, none⟩ = some (.int .i64 cx) := by subst hW; go_simp
  have db021 : W3.cell? ⟨w1.heap.size + 1 + 1, 1, none⟩ = some (.int .i64 cy) := by subst hW; go_simp
  have hbn : Below w1.heap.size w1 W3 := by subst hW; go_grown
  replace gr00 := keepF hbn dr00 gr00
  replace gr01 := keepF hbn dr01 gr01
  replace gr10 := keepF hbn dr10 gr10
  replace gr11 := keepF hbn dr11 gr11
  replace dr00 := keepC hbn dr00
  replace dr01 := keepC hbn dr01
  replace dr10 := keepC hbn dr10
  replace dr11 := keepC hbn dr11
  have hle0 := hB.size
  replace hB := below_of hB hbn hB.size
  clear hW hbn
  generalize w1.heap.size = r_0 at *
  clear w1
  have h_r0 : Res2 _ (w.heap.size) := ⟨World.block_lt_of_cell? _ _ dr00, ⟨_, dr00⟩, ⟨_, dr01⟩, fun j hj => by match j, hj with | 0, _ => exact gr00 | 1, _ => exact gr01⟩
  have h_r1 : Res2 _ (w.heap.size + 1) := ⟨World.block_lt_of_cell? _ _ dr10, ⟨_, dr10⟩, ⟨_, dr11⟩, fun j hj => by match j, hj with | 0, _ => exact gr10 | 1, _ => exact gr11⟩
  clear dr00 gr00 dr01 gr01 dr10 gr10 dr11 gr11
  refine Reg.wp_region_steps7 (by kernel_rfl) 6 (by kernel_rfl) (fun wq => Hid (Below w.heap.size w wq ∧ wq.cell? ⟨r_0, 0, none⟩ = some (.int .i64 ax) ∧ wq.cell? ⟨r_0, 1, none⟩ = some (.int .i64 ay) ∧ wq.cell? ⟨r_0 + 1, 0, none⟩ = some (.int .i64 bx) ∧ wq.cell? ⟨r_0 + 1, 1, none⟩ = some (.int .i64 by_) ∧ wq.cell? ⟨r_0 + 1 + 1, 0, none⟩ = some (.int .i64 cx) ∧ wq.cell? ⟨r_0 + 1 + 1, 1, none⟩ = some (.int .i64 cy) ∧ Res2 wq (w.heap.size) ∧ Res2 wq (w.heap.size + 1))) [(fun v => v = .int .i64 p), (fun v => v = .agg #[.int .i64 ax, .int .i64 ay]), (fun v => v = .agg #[.int .i64 bx, .int .i64 by_]), (fun v => v = .int .i64 p), Reg.anyV, Reg.anyV] (Reg.inh_cons ⟨_, rfl⟩ (Reg.inh_cons ⟨_, rfl⟩ (Reg.inh_cons ⟨_, rfl⟩ (Reg.inh_cons ⟨_, rfl⟩ (Reg.inh_cons ⟨undef, trivial⟩ (Reg.inh_cons ⟨undef, trivial⟩ (Reg.inh_nil))))))) ?_ ?_
  · exact hid ⟨hB.drew, keepC (Below.refl _ _).drew db000, keepC (Below.refl _ _).drew db001, keepC (Below.refl _ _).drew db010, keepC (Below.refl _ _).drew db011, keepC (Below.refl _ _).drew db020, keepC (Below.refl _ _).drew db021, h_r0.keep (Below.refl _ _).drew, h_r1.keep (Below.refl _ _).drew⟩
  clear hB db000 db001 db010 db011 db020 db021 h_r0 h_r1
  simp only [List.take_succ_cons, List.take_zero, List.drop_succ_cons, List.drop_zero]
  refine Reg.wpS7_val (fun wq hq => ?gs13x0) ?ks13x0
  case gs13x0 => (obtain ⟨hB, db000, db001, db010, db011, db020, db021, h_r0, h_r1⟩ := hq.out; go_simp; first | done | (with_reducible rfl) | rfl)
  try simp only [Act.put, List.setIfInBounds_toArray, List.set_cons_zero, List.set_cons_succ]
  refine Reg.wpS7_val (fun wq hq => ?gs13x1) ?ks13x1
  case gs13x1 => (obtain ⟨hB, db000, db001, db010, db011, db020, db021, h_r0, h_r1⟩ := hq.out; go_simp; first | done | (with_reducible rfl) | rfl)
  try simp only [Act.put, List.setIfInBounds_toArray, List.set_cons_zero, List.set_cons_succ]
  refine Reg.wpS7_val (fun wq hq => ?gs13x2) ?ks13x2
  case gs13x2 => (obtain ⟨hB, db000, db001, db010, db011, db020, db021, h_r0, h_r1⟩ := hq.out; go_simp; first | done | (with_reducible rfl) | rfl)
  try simp only [Act.put, List.setIfInBounds_toArray, List.set_cons_zero, List.set_cons_succ]
  refine Reg.wpS7_val (fun wq hq => ?gs13x3) ?ks13x3
  case gs13x3 => (obtain ⟨hB, db000, db001, db010, db011, db020, db021, h_r0, h_r1⟩ := hq.out; go_simp; first | done | (with_reducible rfl) | rfl)
  try simp only [Act.put, List.setIfInBounds_toArray, List.set_cons_zero, List.set_cons_succ]
  refine Reg.wpS7_skip rfl (fun wq hq => ?gs13x4) ?ks13x4
  case gs13x4 =>
    obtain ⟨hB, db000, db001, db010, db011, db020, db021, h_r0, h_r1⟩ := hq.out
    have hres := h_r0
    obtain ⟨_, ⟨x0, cc0⟩, ⟨x1, cc1⟩, hz⟩ := h_r0
    have ff0 := hz 0 (by omega)
    have ff1 := hz 1 (by omega)
    exact ⟨put2 wq (w.heap.size) (ax) (ay), by unfold put2; go_simp, hid ⟨below_put2 hB (by omega) _ _, cellP (put2_heap _ _ _ _) db000 (by dsimp only <;> omega), cellP (put2_heap _ _ _ _) db001 (by dsimp only <;> omega), cellP (put2_heap _ _ _ _) db010 (by dsimp only <;> omega), cellP (put2_heap _ _ _ _) db011 (by dsimp only <;> omega), cellP (put2_heap _ _ _ _) db020 (by dsimp only <;> omega), cellP (put2_heap _ _ _ _) db021 (by dsimp only <;> omega), hres.put _ _, h_r1.heap (by rw [put2_size]; exact Nat.le_refl _) (put2_heap _ _ _ _ _ (by omega))⟩⟩
  try simp only [Act.put, List.setIfInBounds_toArray, List.set_cons_zero, List.set_cons_succ]
  refine Reg.wpS7_skip rfl (fun wq hq => ?gs13x5) ?ks13x5
  case gs13x5 =>
    obtain ⟨hB, db000, db001, db010, db011, db020, db021, h_r0, h_r1⟩ := hq.out
    have hres := h_r1
    obtain ⟨_, ⟨x0, cc0⟩, ⟨x1, cc1⟩, hz⟩ := h_r1
    have ff0 := hz 0 (by omega)
    have ff1 := hz 1 (by omega)
    exact ⟨put2 wq (w.heap.size + 1) (bx) (by_), by unfold put2; go_simp, hid ⟨below_put2 hB (by omega) _ _, cellP (put2_heap _ _ _ _) db000 (by dsimp only <;> omega), cellP (put2_heap _ _ _ _) db001 (by dsimp only <;> omega), cellP (put2_heap _ _ _ _) db010 (by dsimp only <;> omega), cellP (put2_heap _ _ _ _) db011 (by dsimp only <;> omega), cellP (put2_heap _ _ _ _) db020 (by dsimp only <;> omega), cellP (put2_heap _ _ _ _) db021 (by dsimp only <;> omega), h_r0.heap (by rw [put2_size]; exact Nat.le_refl _) (put2_heap _ _ _ _ _ (by omega)), hres.put _ _⟩⟩
  try simp only [Act.put, List.setIfInBounds_toArray, List.set_cons_zero, List.set_cons_succ]
  intro w2 hq
  obtain ⟨hB, db000, db001, db010, db011, db020, db021, h_r0, h_r1⟩ := hq.out
  clear hq
  change wpList _ _ _ _ _ _
  obtain ⟨_, ⟨x00, cr00⟩, ⟨x01, cr01⟩, _⟩ := h_r0
  obtain ⟨_, ⟨x10, cr10⟩, ⟨x11, cr11⟩, _⟩ := h_r1
  go_wp2_with fail
  try simp only [Exit.inBlock, Exit.then]
  refine bodyPost_ret (by simp [results, Tryz.results5, go_sem, cr00, cr01, cr10, cr11]; try rfl) rfl ?_
  exact ⟨⟨_, _, _, _, _, rfl⟩, by first | exact hB | go_grown⟩
theorem drawMidpointOf_any (v : Value) (w : World) (hv : Bytes w w.heap.size v) :
    Calls Tryz.prog 31 #[v] w fun e w' => (∃ o0 o1x o1y o2x o2y : Int, e = .returned (.tuple #[.int .i64 o0, .agg #[.int .i64 o1x, .int .i64 o1y], .agg #[.int .i64 o2x, .int .i64 o2y]])) ∧ Below w.heap.size w w' := by
  obtain ⟨B, hBw⟩ : ∃ B, B = w.heap.size := ⟨_, rfl⟩
  have hv0 : Bytes w B v := by rw [hBw]; exact hv
  clear hv
  go_enter Tryz.func31, Tryz.ntmps31
  go_wp2_with fail
  generalize hW : (World.alloc (World.alloc w (.cells #[.int .i64 0, .int .i64 0] 25)) (.cells #[.int .i64 0, .int .i64 0] 25)) = W
  have dr00 : W.cell? ⟨w.heap.size, 0, none⟩ = some (.int .i64 0) := by subst hW; go_simp
  have gr00 : W.frozen? ⟨w.heap.size, 0, none⟩ = false := by subst hW; go_simp
  have dr01 : W.cell? ⟨w.heap.size, 1, none⟩ = some (.int .i64 0) := by subst hW; go_simp
  have gr01 : W.frozen? ⟨w.heap.size, 1, none⟩ = false := by subst hW; go_simp
  have dr10 : W.cell? ⟨w.heap.size + 1, 0, none⟩ = some (.int .i64 0) := by subst hW; go_simp
  have gr10 : W.frozen? ⟨w.heap.size + 1, 0, none⟩ = false := by subst hW; go_simp
  have dr11 : W.cell? ⟨w.heap.size + 1, 1, none⟩ = some (.int .i64 0) := by subst hW; go_simp
  have gr11 : W.frozen? ⟨w.heap.size + 1, 1, none⟩ = false := by subst hW; go_simp
  have hv1 : Bytes W B v := by subst hW; exact ((hv0).alloc _).alloc _
  have hB : Below w.heap.size w W := by subst hW; go_grown
  have hbs : w.heap.size + 2 ≤ W.heap.size := by subst hW; simp
  clear hW hv0
  refine (three1_any v _ (hv1.raise (by omega))).mono ?_
  rintro e w1 ⟨⟨p, ax, ay, bx, by_, cx, cy, rfl⟩, hbn⟩
  replace gr00 := keepF hbn dr00 gr00
  replace gr01 := keepF hbn dr01 gr01
  replace gr10 := keepF hbn dr10 gr10
  replace gr11 := keepF hbn dr11 gr11
  replace dr00 := keepC hbn dr00
  replace dr01 := keepC hbn dr01
  replace dr10 := keepC hbn dr10
  replace dr11 := keepC hbn dr11
  have hsz0 := hbn.size
  replace hB := below_of hB hbn hB.size
  clear hbn hv1
  go_wp2_with fail
  generalize hW : (World.alloc (World.alloc (World.alloc w1 (.cells #[.int .i64 ax, .int .i64 ay] 25)) (.cells #[.int .i64 bx, .int .i64 by_] 25)) (.cells #[.int .i64 cx, .int .i64 cy] 25)) = W3
  have db000 : W3.cell? ⟨w1.heap.size, 0, none⟩ = some (.int .i64 ax) := by subst hW; go_simp
  have db001 : W3.cell? ⟨w1.heap.size, 1, none⟩ = some (.int .i64 ay) := by subst hW; go_simp
  have db010 : W3.cell? ⟨w1.heap.size + 1, 0, none⟩ = some (.int .i64 bx) := by subst hW; go_simp
  have db011 : W3.cell? ⟨w1.heap.size + 1, 1, none⟩ = some (.int .i64 by_) := by subst hW; go_simp
  have db020 : W3.cell? ⟨w1.heap.size + 1 + 1, 0, none⟩ = some (.int .i64 cx) := by subst hW; go_simp
  have db021 : W3.cell? ⟨w1.heap.size + 1 + 1, 1, none⟩ = some (.int .i64 cy) := by subst hW; go_simp
  have hbn : Below w1.heap.size w1 W3 := by subst hW; go_grown
  replace gr00 := keepF hbn dr00 gr00
  replace gr01 := keepF hbn dr01 gr01
  replace gr10 := keepF hbn dr10 gr10
  replace gr11 := keepF hbn dr11 gr11
  replace dr00 := keepC hbn dr00
  replace dr01 := keepC hbn dr01
  replace dr10 := keepC hbn dr10
  replace dr11 := keepC hbn dr11
  have hle0 := hB.size
  replace hB := below_of hB hbn hB.size
  clear hW hbn
  generalize w1.heap.size = r_0 at *
  clear w1
  have h_r0 : Res2 _ (w.heap.size) := ⟨World.block_lt_of_cell? _ _ dr00, ⟨_, dr00⟩, ⟨_, dr01⟩, fun j hj => by match j, hj with | 0, _ => exact gr00 | 1, _ => exact gr01⟩
  have h_r1 : Res2 _ (w.heap.size + 1) := ⟨World.block_lt_of_cell? _ _ dr10, ⟨_, dr10⟩, ⟨_, dr11⟩, fun j hj => by match j, hj with | 0, _ => exact gr10 | 1, _ => exact gr11⟩
  clear dr00 gr00 dr01 gr01 dr10 gr10 dr11 gr11
  refine Reg.wp_region_steps7 (by kernel_rfl) 6 (by kernel_rfl) (fun wq => Hid (Below w.heap.size w wq ∧ wq.cell? ⟨r_0, 0, none⟩ = some (.int .i64 ax) ∧ wq.cell? ⟨r_0, 1, none⟩ = some (.int .i64 ay) ∧ wq.cell? ⟨r_0 + 1, 0, none⟩ = some (.int .i64 bx) ∧ wq.cell? ⟨r_0 + 1, 1, none⟩ = some (.int .i64 by_) ∧ wq.cell? ⟨r_0 + 1 + 1, 0, none⟩ = some (.int .i64 cx) ∧ wq.cell? ⟨r_0 + 1 + 1, 1, none⟩ = some (.int .i64 cy) ∧ Res2 wq (w.heap.size) ∧ Res2 wq (w.heap.size + 1))) [(fun v => v = .int .i64 p), (fun v => v = .agg #[.int .i64 ax, .int .i64 ay]), (fun v => v = .agg #[.int .i64 bx, .int .i64 by_]), (fun v => v = .int .i64 p), Reg.anyV, Reg.anyV] (Reg.inh_cons ⟨_, rfl⟩ (Reg.inh_cons ⟨_, rfl⟩ (Reg.inh_cons ⟨_, rfl⟩ (Reg.inh_cons ⟨_, rfl⟩ (Reg.inh_cons ⟨undef, trivial⟩ (Reg.inh_cons ⟨undef, trivial⟩ (Reg.inh_nil))))))) ?_ ?_
  · exact hid ⟨hB.drew, keepC (Below.refl _ _).drew db000, keepC (Below.refl _ _).drew db001, keepC (Below.refl _ _).drew db010, keepC (Below.refl _ _).drew db011, keepC (Below.refl _ _).drew db020, keepC (Below.refl _ _).drew db021, h_r0.keep (Below.refl _ _).drew, h_r1.keep (Below.refl _ _).drew⟩
  clear hB db000 db001 db010 db011 db020 db021 h_r0 h_r1
  simp only [List.take_succ_cons, List.take_zero, List.drop_succ_cons, List.drop_zero]
  refine Reg.wpS7_val (fun wq hq => ?gs14x0) ?ks14x0
  case gs14x0 => (obtain ⟨hB, db000, db001, db010, db011, db020, db021, h_r0, h_r1⟩ := hq.out; go_simp; first | done | (with_reducible rfl) | rfl)
  try simp only [Act.put, List.setIfInBounds_toArray, List.set_cons_zero, List.set_cons_succ]
  refine Reg.wpS7_val (fun wq hq => ?gs14x1) ?ks14x1
  case gs14x1 => (obtain ⟨hB, db000, db001, db010, db011, db020, db021, h_r0, h_r1⟩ := hq.out; go_simp; first | done | (with_reducible rfl) | rfl)
  try simp only [Act.put, List.setIfInBounds_toArray, List.set_cons_zero, List.set_cons_succ]
  refine Reg.wpS7_val (fun wq hq => ?gs14x2) ?ks14x2
  case gs14x2 => (obtain ⟨hB, db000, db001, db010, db011, db020, db021, h_r0, h_r1⟩ := hq.out; go_simp; first | done | (with_reducible rfl) | rfl)
  try simp only [Act.put, List.setIfInBounds_toArray, List.set_cons_zero, List.set_cons_succ]
  refine Reg.wpS7_val (fun wq hq => ?gs14x3) ?ks14x3
  case gs14x3 => (obtain ⟨hB, db000, db001, db010, db011, db020, db021, h_r0, h_r1⟩ := hq.out; go_simp; first | done | (with_reducible rfl) | rfl)
  try simp only [Act.put, List.setIfInBounds_toArray, List.set_cons_zero, List.set_cons_succ]
  refine Reg.wpS7_skip rfl (fun wq hq => ?gs14x4) ?ks14x4
  case gs14x4 =>
    obtain ⟨hB, db000, db001, db010, db011, db020, db021, h_r0, h_r1⟩ := hq.out
    have hres := h_r0
    obtain ⟨_, ⟨x0, cc0⟩, ⟨x1, cc1⟩, hz⟩ := h_r0
    have ff0 := hz 0 (by omega)
    have ff1 := hz 1 (by omega)
    exact ⟨put2 wq (w.heap.size) (ax) (ay), by unfold put2; go_simp, hid ⟨below_put2 hB (by omega) _ _, cellP (put2_heap _ _ _ _) db000 (by dsimp only <;> omega), cellP (put2_heap _ _ _ _) db001 (by dsimp only <;> omega), cellP (put2_heap _ _ _ _) db010 (by dsimp only <;> omega), cellP (put2_heap _ _ _ _) db011 (by dsimp only <;> omega), cellP (put2_heap _ _ _ _) db020 (by dsimp only <;> omega), cellP (put2_heap _ _ _ _) db021 (by dsimp only <;> omega), hres.put _ _, h_r1.heap (by rw [put2_size]; exact Nat.le_refl _) (put2_heap _ _ _ _ _ (by omega))⟩⟩
  try simp only [Act.put, List.setIfInBounds_toArray, List.set_cons_zero, List.set_cons_succ]
  refine Reg.wpS7_skip rfl (fun wq hq => ?gs14x5) ?ks14x5
  case gs14x5 =>
    obtain ⟨hB, db000, db001, db010, db011, db020, db021, h_r0, h_r1⟩ := hq.out
    have hres := h_r1
    obtain ⟨_, ⟨x0, cc0⟩, ⟨x1, cc1⟩, hz⟩ := h_r1
    have ff0 := hz 0 (by omega)
    have ff1 := hz 1 (by omega)
    exact ⟨put2 wq (w.heap.size + 1) (bx) (by_), by unfold put2; go_simp, hid ⟨below_put2 hB (by omega) _ _, cellP (put2_heap _ _ _ _) db000 (by dsimp only <;> omega), cellP (put2_heap _ _ _ _) db001 (by dsimp only <;> omega), cellP (put2_heap _ _ _ _) db010 (by dsimp only <;> omega), cellP (put2_heap _ _ _ _) db011 (by dsimp only <;> omega), cellP (put2_heap _ _ _ _) db020 (by dsimp only <;> omega), cellP (put2_heap _ _ _ _) db021 (by dsimp only <;> omega), h_r0.heap (by rw [put2_size]; exact Nat.le_refl _) (put2_heap _ _ _ _ _ (by omega)), hres.put _ _⟩⟩
  try simp only [Act.put, List.setIfInBounds_toArray, List.set_cons_zero, List.set_cons_succ]
  intro w2 hq
  obtain ⟨hB, db000, db001, db010, db011, db020, db021, h_r0, h_r1⟩ := hq.out
  clear hq
  change wpList _ _ _ _ _ _
  obtain ⟨_, ⟨x00, cr00⟩, ⟨x01, cr01⟩, _⟩ := h_r0
  obtain ⟨_, ⟨x10, cr10⟩, ⟨x11, cr11⟩, _⟩ := h_r1
  go_wp2_with fail
  try simp only [Exit.inBlock, Exit.then]
  refine bodyPost_ret (by simp [results, Tryz.results31, go_sem, cr00, cr01, cr10, cr11]; try rfl) rfl ?_
  exact ⟨⟨_, _, _, _, _, rfl⟩, by first | exact hB | go_grown⟩
theorem drawAreCollinear_any (v : Value) (w : World) (hv : Bytes w w.heap.size v) :
    Calls Tryz.prog 26 #[v] w fun e w' => (∃ o0 o1x o1y o2x o2y o3x o3y : Int, e = .returned (.tuple #[.int .i64 o0, .agg #[.int .i64 o1x, .int .i64 o1y], .agg #[.int .i64 o2x, .int .i64 o2y], .agg #[.int .i64 o3x, .int .i64 o3y]])) ∧ Below w.heap.size w w' := by
  obtain ⟨B, hBw⟩ : ∃ B, B = w.heap.size := ⟨_, rfl⟩
  have hv0 : Bytes w B v := by rw [hBw]; exact hv
  clear hv
  go_enter Tryz.func26, Tryz.ntmps26
  go_wp2_with fail
  generalize hW : (World.alloc (World.alloc (World.alloc w (.cells #[.int .i64 0, .int .i64 0] 25)) (.cells #[.int .i64 0, .int .i64 0] 25)) (.cells #[.int .i64 0, .int .i64 0] 25)) = W
  have dr00 : W.cell? ⟨w.heap.size, 0, none⟩ = some (.int .i64 0) := by subst hW; go_simp
  have gr00 : W.frozen? ⟨w.heap.size, 0, none⟩ = false := by subst hW; go_simp
  have dr01 : W.cell? ⟨w.heap.size, 1, none⟩ = some (.int .i64 0) := by subst hW; go_simp
  have gr01 : W.frozen? ⟨w.heap.size, 1, none⟩ = false := by subst hW; go_simp
  have dr10 : W.cell? ⟨w.heap.size + 1, 0, none⟩ = some (.int .i64 0) := by subst hW; go_simp
  have gr10 : W.frozen? ⟨w.heap.size + 1, 0, none⟩ = false := by subst hW; go_simp
  have dr11 : W.cell? ⟨w.heap.size + 1, 1, none⟩ = some (.int .i64 0) := by subst hW; go_simp
  have gr11 : W.frozen? ⟨w.heap.size + 1, 1, none⟩ = false := by subst hW; go_simp
  have dr20 : W.cell? ⟨w.heap.size + 1 + 1, 0, none⟩ = some (.int .i64 0) := by subst hW; go_simp
  have gr20 : W.frozen? ⟨w.heap.size + 1 + 1, 0, none⟩ = false := by subst hW; go_simp
  have dr21 : W.cell? ⟨w.heap.size + 1 + 1, 1, none⟩ = some (.int .i64 0) := by subst hW; go_simp
  have gr21 : W.frozen? ⟨w.heap.size + 1 + 1, 1, none⟩ = false := by subst hW; go_simp
  have hv1 : Bytes W B v := by subst hW; exact (((hv0).alloc _).alloc _).alloc _
  have hB : Below w.heap.size w W := by subst hW; go_grown
  have hbs : w.heap.size + 3 ≤ W.heap.size := by subst hW; simp
  clear hW hv0
  refine (three1_any v _ (hv1.raise (by omega))).mono ?_
  rintro e w1 ⟨⟨p, ax, ay, bx, by_, cx, cy, rfl⟩, hbn⟩
  replace gr00 := keepF hbn dr00 gr00
  replace gr01 := keepF hbn dr01 gr01
  replace gr10 := keepF hbn dr10 gr10
  replace gr11 := keepF hbn dr11 gr11
  replace gr20 := keepF hbn dr20 gr20
  replace gr21 := keepF hbn dr21 gr21
  replace dr00 := keepC hbn dr00
  replace dr01 := keepC hbn dr01
  replace dr10 := keepC hbn dr10
  replace dr11 := keepC hbn dr11
  replace dr20 := keepC hbn dr20
  replace dr21 := keepC hbn dr21
  have hsz0 := hbn.size
  replace hB := below_of hB hbn hB.size
  clear hbn hv1
  go_wp2_with fail
  generalize hW : (World.alloc (World.alloc (World.alloc w1 (.cells #[.int .i64 ax, .int .i64 ay] 25)) (.cells #[.int .i64 bx, .int .i64 by_] 25)) (.cells #[.int .i64 cx, .int .i64 cy] 25)) = W3
  have db000 : W3.cell? ⟨w1.heap.size, 0, none⟩ = some (.int .i64 ax) := by subst hW; go_simp
  have db001 : W3.cell? ⟨w1.heap.size, 1, none⟩ = some (.int .i64 ay) := by subst hW; go_simp
  have db010 : W3.cell? ⟨w1.heap.size + 1, 0, none⟩ = some (.int .i64 bx) := by subst hW; go_simp
  have db011 : W3.cell? ⟨w1.heap.size + 1, 1, none⟩ = some (.int .i64 by_) := by subst hW; go_simp
  have db020 : W3.cell? ⟨w1.heap.size + 1 + 1, 0, none⟩ = some (.int .i64 cx) := by subst hW; go_simp
  have db021 : W3.cell? ⟨w1.heap.size + 1 + 1, 1, none⟩ = some (.int .i64 cy) := by subst hW; go_simp
  have hbn : Below w1.heap.size w1 W3 := by subst hW; go_grown
  replace gr00 := keepF hbn dr00 gr00
  replace gr01 := keepF hbn dr01 gr01
  replace gr10 := keepF hbn dr10 gr10
  replace gr11 := keepF hbn dr11 gr11
  replace gr20 := keepF hbn dr20 gr20
  replace gr21 := keepF hbn dr21 gr21
  replace dr00 := keepC hbn dr00
  replace dr01 := keepC hbn dr01
  replace dr10 := keepC hbn dr10
  replace dr11 := keepC hbn dr11
  replace dr20 := keepC hbn dr20
  replace dr21 := keepC hbn dr21
  have hle0 := hB.size
  replace hB := below_of hB hbn hB.size
  clear hW hbn
  generalize w1.heap.size = r_0 at *
  clear w1
  have h_r0 : Res2 _ (w.heap.size) := ⟨World.block_lt_of_cell? _ _ dr00, ⟨_, dr00⟩, ⟨_, dr01⟩, fun j hj => by match j, hj with | 0, _ => exact gr00 | 1, _ => exact gr01⟩
  have h_r1 : Res2 _ (w.heap.size + 1) := ⟨World.block_lt_of_cell? _ _ dr10, ⟨_, dr10⟩, ⟨_, dr11⟩, fun j hj => by match j, hj with | 0, _ => exact gr10 | 1, _ => exact gr11⟩
  have h_r2 : Res2 _ (w.heap.size + 1 + 1) := ⟨World.block_lt_of_cell? _ _ dr20, ⟨_, dr20⟩, ⟨_, dr21⟩, fun j hj => by match j, hj with | 0, _ => exact gr20 | 1, _ => exact gr21⟩
  clear dr00 gr00 dr01 gr01 dr10 gr10 dr11 gr11 dr20 gr20 dr21 gr21
  refine Reg.wp_region_steps7 (by kernel_rfl) 8 (by kernel_rfl) (fun wq => Hid (Below w.heap.size w wq ∧ wq.cell? ⟨r_0, 0, none⟩ = some (.int .i64 ax) ∧ wq.cell? ⟨r_0, 1, none⟩ = some (.int .i64 ay) ∧ wq.cell? ⟨r_0 + 1, 0, none⟩ = some (.int .i64 bx) ∧ wq.cell? ⟨r_0 + 1, 1, none⟩ = some (.int .i64 by_) ∧ wq.cell? ⟨r_0 + 1 + 1, 0, none⟩ = some (.int .i64 cx) ∧ wq.cell? ⟨r_0 + 1 + 1, 1, none⟩ = some (.int .i64 cy) ∧ Res2 wq (w.heap.size) ∧ Res2 wq (w.heap.size + 1) ∧ Res2 wq (w.heap.size + 1 + 1))) [(fun v => v = .int .i64 p), (fun v => v = .agg #[.int .i64 ax, .int .i64 ay]), (fun v => v = .agg #[.int .i64 bx, .int .i64 by_]), (fun v => v = .agg #[.int .i64 cx, .int .i64 cy]), (fun v => v = .int .i64 p), Reg.anyV, Reg.anyV, Reg.anyV] (Reg.inh_cons ⟨_, rfl⟩ (Reg.inh_cons ⟨_, rfl⟩ (Reg.inh_cons ⟨_, rfl⟩ (Reg.inh_cons ⟨_, rfl⟩ (Reg.inh_cons ⟨_, rfl⟩ (Reg.inh_cons ⟨undef, trivial⟩ (Reg.inh_cons ⟨undef, trivial⟩ (Reg.inh_cons ⟨undef, trivial⟩ (Reg.inh_nil))))))))) ?_ ?_
  · exact hid ⟨hB.drew, keepC (Below.refl _ _).drew db000, keepC (Below.refl _ _).drew db001, keepC (Below.refl _ _).drew db010, keepC (Below.refl _ _).drew db011, keepC (Below.refl _ _).drew db020, keepC (Below.refl _ _).drew db021, h_r0.keep (Below.refl _ _).drew, h_r1.keep (Below.refl _ _).drew, h_r2.keep (Below.refl _ _).drew⟩
  clear hB db000 db001 db010 db011 db020 db021 h_r0 h_r1 h_r2
  simp only [List.take_succ_cons, List.take_zero, List.drop_succ_cons, List.drop_zero]
  refine Reg.wpS7_val (fun wq hq => ?gs15x0) ?ks15x0
  case gs15x0 => (obtain ⟨hB, db000, db001, db010, db011, db020, db021, h_r0, h_r1, h_r2⟩ := hq.out; go_simp; first | done | (with_reducible rfl) | rfl)
  try simp only [Act.put, List.setIfInBounds_toArray, List.set_cons_zero, List.set_cons_succ]
  refine Reg.wpS7_val (fun wq hq => ?gs15x1) ?ks15x1
  case gs15x1 => (obtain ⟨hB, db000, db001, db010, db011, db020, db021, h_r0, h_r1, h_r2⟩ := hq.out; go_simp; first | done | (with_reducible rfl) | rfl)
  try simp only [Act.put, List.setIfInBounds_toArray, List.set_cons_zero, List.set_cons_succ]
  refine Reg.wpS7_val (fun wq hq => ?gs15x2) ?ks15x2
  case gs15x2 => (obtain ⟨hB, db000, db001, db010, db011, db020, db021, h_r0, h_r1, h_r2⟩ := hq.out; go_simp; first | done | (with_reducible rfl) | rfl)
  try simp only [Act.put, List.setIfInBounds_toArray, List.set_cons_zero, List.set_cons_succ]
  refine Reg.wpS7_val (fun wq hq => ?gs15x3) ?ks15x3
  case gs15x3 => (obtain ⟨hB, db000, db001, db010, db011, db020, db021, h_r0, h_r1, h_r2⟩ := hq.out; go_simp; first | done | (with_reducible rfl) | rfl)
  try simp only [Act.put, List.setIfInBounds_toArray, List.set_cons_zero, List.set_cons_succ]
  refine Reg.wpS7_val (fun wq hq => ?gs15x4) ?ks15x4
  case gs15x4 => (obtain ⟨hB, db000, db001, db010, db011, db020, db021, h_r0, h_r1, h_r2⟩ := hq.out; go_simp; first | done | (with_reducible rfl) | rfl)
  try simp only [Act.put, List.setIfInBounds_toArray, List.set_cons_zero, List.set_cons_succ]
  refine Reg.wpS7_skip rfl (fun wq hq => ?gs15x5) ?ks15x5
  case gs15x5 =>
    obtain ⟨hB, db000, db001, db010, db011, db020, db021, h_r0, h_r1, h_r2⟩ := hq.out
    have hres := h_r0
    obtain ⟨_, ⟨x0, cc0⟩, ⟨x1, cc1⟩, hz⟩ := h_r0
    have ff0 := hz 0 (by omega)
    have ff1 := hz 1 (by omega)
    exact ⟨put2 wq (w.heap.size) (ax) (ay), by unfold put2; go_simp, hid ⟨below_put2 hB (by omega) _ _, cellP (put2_heap _ _ _ _) db000 (by dsimp only <;> omega), cellP (put2_heap _ _ _ _) db001 (by dsimp only <;> omega), cellP (put2_heap _ _ _ _) db010 (by dsimp only <;> omega), cellP (put2_heap _ _ _ _) db011 (by dsimp only <;> omega), cellP (put2_heap _ _ _ _) db020 (by dsimp only <;> omega), cellP (put2_heap _ _ _ _) db021 (by dsimp only <;> omega), hres.put _ _, h_r1.heap (by rw [put2_size]; exact Nat.le_refl _) (put2_heap _ _ _ _ _ (by omega)), h_r2.heap (by rw [put2_size]; exact Nat.le_refl _) (put2_heap _ _ _ _ _ (by omega))⟩⟩
  try simp only [Act.put, List.setIfInBounds_toArray, List.set_cons_zero, List.set_cons_succ]
  refine Reg.wpS7_skip rfl (fun wq hq => ?gs15x6) ?ks15x6
  case gs15x6 =>
    obtain ⟨hB, db000, db001, db010, db011, db020, db021, h_r0, h_r1, h_r2⟩ := hq.out
    have hres := h_r1
    obtain ⟨_, ⟨x0, cc0⟩, ⟨x1, cc1⟩, hz⟩ := h_r1
    have ff0 := hz 0 (by omega)
    have ff1 := hz 1 (by omega)
    exact ⟨put2 wq (w.heap.size + 1) (bx) (by_), by unfold put2; go_simp, hid ⟨below_put2 hB (by omega) _ _, cellP (put2_heap _ _ _ _) db000 (by dsimp only <;> omega), cellP (put2_heap _ _ _ _) db001 (by dsimp only <;> omega), cellP (put2_heap _ _ _ _) db010 (by dsimp only <;> omega), cellP (put2_heap _ _ _ _) db011 (by dsimp only <;> omega), cellP (put2_heap _ _ _ _) db020 (by dsimp only <;> omega), cellP (put2_heap _ _ _ _) db021 (by dsimp only <;> omega), h_r0.heap (by rw [put2_size]; exact Nat.le_refl _) (put2_heap _ _ _ _ _ (by omega)), hres.put _ _, h_r2.heap (by rw [put2_size]; exact Nat.le_refl _) (put2_heap _ _ _ _ _ (by omega))⟩⟩
  try simp only [Act.put, List.setIfInBounds_toArray, List.set_cons_zero, List.set_cons_succ]
  refine Reg.wpS7_skip rfl (fun wq hq => ?gs15x7) ?ks15x7
  case gs15x7 =>
    obtain ⟨hB, db000, db001, db010, db011, db020, db021, h_r0, h_r1, h_r2⟩ := hq.out
    have hres := h_r2
    obtain ⟨_, ⟨x0, cc0⟩, ⟨x1, cc1⟩, hz⟩ := h_r2
    have ff0 := hz 0 (by omega)
    have ff1 := hz 1 (by omega)
    exact ⟨put2 wq (w.heap.size + 1 + 1) (cx) (cy), by unfold put2; go_simp, hid ⟨below_put2 hB (by omega) _ _, cellP (put2_heap _ _ _ _) db000 (by dsimp only <;> omega), cellP (put2_heap _ _ _ _) db001 (by dsimp only <;> omega), cellP (put2_heap _ _ _ _) db010 (by dsimp only <;> omega), cellP (put2_heap _ _ _ _) db011 (by dsimp only <;> omega), cellP (put2_heap _ _ _ _) db020 (by dsimp only <;> omega), cellP (put2_heap _ _ _ _) db021 (by dsimp only <;> omega), h_r0.heap (by rw [put2_size]; exact Nat.le_refl _) (put2_heap _ _ _ _ _ (by omega)), h_r1.heap (by rw [put2_size]; exact Nat.le_refl _) (put2_heap _ _ _ _ _ (by omega)), hres.put _ _⟩⟩
  try simp only [Act.put, List.setIfInBounds_toArray, List.set_cons_zero, List.set_cons_succ]
  intro w2 hq
  obtain ⟨hB, db000, db001, db010, db011, db020, db021, h_r0, h_r1, h_r2⟩ := hq.out
  clear hq
  change wpList _ _ _ _ _ _
  obtain ⟨_, ⟨x00, cr00⟩, ⟨x01, cr01⟩, _⟩ := h_r0
  obtain ⟨_, ⟨x10, cr10⟩, ⟨x11, cr11⟩, _⟩ := h_r1
  obtain ⟨_, ⟨x20, cr20⟩, ⟨x21, cr21⟩, _⟩ := h_r2
  go_wp2_with fail
  try simp only [Exit.inBlock, Exit.then]
  refine bodyPost_ret (by simp [results, Tryz.results26, go_sem, cr00, cr01, cr10, cr11, cr20, cr21]; try rfl) rfl ?_
  exact ⟨⟨_, _, _, _, _, _, _, rfl⟩, by first | exact hB | go_grown⟩
theorem drawMeetOf_any (v : Value) (w : World) (hv : Bytes w w.heap.size v) :
    Calls Tryz.prog 11 #[v] w fun e w' => (∃ o0 o1a o1b o1c o2a o2b o2c : Int, e = .returned (.tuple #[.int .i64 o0, .agg #[.int .i64 o1a, .int .i64 o1b, .int .i64 o1c], .agg #[.int .i64 o2a, .int .i64 o2b, .int .i64 o2c]])) ∧ Below w.heap.size w w' := by
  obtain ⟨B, hBw⟩ : ∃ B, B = w.heap.size := ⟨_, rfl⟩
  have hv0 : Bytes w B v := by rw [hBw]; exact hv
  clear hv
  go_enter Tryz.func11, Tryz.ntmps11
  go_wp2_with fail
  generalize hW : (World.alloc (World.alloc w (.cells #[.int .i64 0, .int .i64 0, .int .i64 0] 29)) (.cells #[.int .i64 0, .int .i64 0, .int .i64 0] 29)) = W
  have dr00 : W.cell? ⟨w.heap.size, 0, none⟩ = some (.int .i64 0) := by subst hW; go_simp
  have gr00 : W.frozen? ⟨w.heap.size, 0, none⟩ = false := by subst hW; go_simp
  have dr01 : W.cell? ⟨w.heap.size, 1, none⟩ = some (.int .i64 0) := by subst hW; go_simp
  have gr01 : W.frozen? ⟨w.heap.size, 1, none⟩ = false := by subst hW; go_simp
  have dr02 : W.cell? ⟨w.heap.size, 2, none⟩ = some (.int .i64 0) := by subst hW; go_simp
  have gr02 : W.frozen? ⟨w.heap.size, 2, none⟩ = false := by subst hW; go_simp
  have dr10 : W.cell? ⟨w.heap.size + 1, 0, none⟩ = some (.int .i64 0) := by subst hW; go_simp
  have gr10 : W.frozen? ⟨w.heap.size + 1, 0, none⟩ = false := by subst hW; go_simp
  have dr11 : W.cell? ⟨w.heap.size + 1, 1, none⟩ = some (.int .i64 0) := by subst hW; go_simp
  have gr11 : W.frozen? ⟨w.heap.size + 1, 1, none⟩ = false := by subst hW; go_simp
  have dr12 : W.cell? ⟨w.heap.size + 1, 2, none⟩ = some (.int .i64 0) := by subst hW; go_simp
  have gr12 : W.frozen? ⟨w.heap.size + 1, 2, none⟩ = false := by subst hW; go_simp
  have hv1 : Bytes W B v := by subst hW; exact ((hv0).alloc _).alloc _
  have hB : Below w.heap.size w W := by subst hW; go_grown
  have hbs : w.heap.size + 2 ≤ W.heap.size := by subst hW; simp
  clear hW hv0
  refine (pair1_any v _ (hv1.raise (by omega))).mono ?_
  rintro e w1 ⟨⟨p, la, lb, lc, ma, mb, mc, rfl⟩, hbn⟩
  replace gr00 := keepF hbn dr00 gr00
  replace gr01 := keepF hbn dr01 gr01
  replace gr02 := keepF hbn dr02 gr02
  replace gr10 := keepF hbn dr10 gr10
  replace gr11 := keepF hbn dr11 gr11
  replace gr12 := keepF hbn dr12 gr12
  replace dr00 := keepC hbn dr00
  replace dr01 := keepC hbn dr01
  replace dr02 := keepC hbn dr02
  replace dr10 := keepC hbn dr10
  replace dr11 := keepC hbn dr11
  replace dr12 := keepC hbn dr12
  have hsz0 := hbn.size
  replace hB := below_of hB hbn hB.size
  clear hbn hv1
  go_wp2_with fail
  generalize hW : (World.alloc (World.alloc w1 (.cells #[.int .i64 la, .int .i64 lb, .int .i64 lc] 29)) (.cells #[.int .i64 ma, .int .i64 mb, .int .i64 mc] 29)) = W3
  have db000 : W3.cell? ⟨w1.heap.size, 0, none⟩ = some (.int .i64 la) := by subst hW; go_simp
  have db001 : W3.cell? ⟨w1.heap.size, 1, none⟩ = some (.int .i64 lb) := by subst hW; go_simp
  have db002 : W3.cell? ⟨w1.heap.size, 2, none⟩ = some (.int .i64 lc) := by subst hW; go_simp
  have db010 : W3.cell? ⟨w1.heap.size + 1, 0, none⟩ = some (.int .i64 ma) := by subst hW; go_simp
  have db011 : W3.cell? ⟨w1.heap.size + 1, 1, none⟩ = some (.int .i64 mb) := by subst hW; go_simp
  have db012 : W3.cell? ⟨w1.heap.size + 1, 2, none⟩ = some (.int .i64 mc) := by subst hW; go_simp
  have hbn : Below w1.heap.size w1 W3 := by subst hW; go_grown
  replace gr00 := keepF hbn dr00 gr00
  replace gr01 := keepF hbn dr01 gr01
  replace gr02 := keepF hbn dr02 gr02
  replace gr10 := keepF hbn dr10 gr10
  replace gr11 := keepF hbn dr11 gr11
  replace gr12 := keepF hbn dr12 gr12
  replace dr00 := keepC hbn dr00
  replace dr01 := keepC hbn dr01
  replace dr02 := keepC hbn dr02
  replace dr10 := keepC hbn dr10
  replace dr11 := keepC hbn dr11
  replace dr12 := keepC hbn dr12
  have hle0 := hB.size
  replace hB := below_of hB hbn hB.size
  clear hW hbn
  generalize w1.heap.size = r_0 at *
  clear w1
  have h_r0 : Res3 _ (w.heap.size) := ⟨World.block_lt_of_cell? _ _ dr00, ⟨_, dr00⟩, ⟨_, dr01⟩, ⟨_, dr02⟩, fun j hj => by match j, hj with | 0, _ => exact gr00 | 1, _ => exact gr01 | 2, _ => exact gr02⟩
  have h_r1 : Res3 _ (w.heap.size + 1) := ⟨World.block_lt_of_cell? _ _ dr10, ⟨_, dr10⟩, ⟨_, dr11⟩, ⟨_, dr12⟩, fun j hj => by match j, hj with | 0, _ => exact gr10 | 1, _ => exact gr11 | 2, _ => exact gr12⟩
  clear dr00 gr00 dr01 gr01 dr02 gr02 dr10 gr10 dr11 gr11 dr12 gr12
  refine Reg.wp_region_steps7 (by kernel_rfl) 6 (by kernel_rfl) (fun wq => Hid (Below w.heap.size w wq ∧ wq.cell? ⟨r_0, 0, none⟩ = some (.int .i64 la) ∧ wq.cell? ⟨r_0, 1, none⟩ = some (.int .i64 lb) ∧ wq.cell? ⟨r_0, 2, none⟩ = some (.int .i64 lc) ∧ wq.cell? ⟨r_0 + 1, 0, none⟩ = some (.int .i64 ma) ∧ wq.cell? ⟨r_0 + 1, 1, none⟩ = some (.int .i64 mb) ∧ wq.cell? ⟨r_0 + 1, 2, none⟩ = some (.int .i64 mc) ∧ Res3 wq (w.heap.size) ∧ Res3 wq (w.heap.size + 1))) [(fun v => v = .int .i64 p), (fun v => v = .agg #[.int .i64 la, .int .i64 lb, .int .i64 lc]), (fun v => v = .agg #[.int .i64 ma, .int .i64 mb, .int .i64 mc]), (fun v => v = .int .i64 p), Reg.anyV, Reg.anyV] (Reg.inh_cons ⟨_, rfl⟩ (Reg.inh_cons ⟨_, rfl⟩ (Reg.inh_cons ⟨_, rfl⟩ (Reg.inh_cons ⟨_, rfl⟩ (Reg.inh_cons ⟨undef, trivial⟩ (Reg.inh_cons ⟨undef, trivial⟩ (Reg.inh_nil))))))) ?_ ?_
  · exact hid ⟨hB.drew, keepC (Below.refl _ _).drew db000, keepC (Below.refl _ _).drew db001, keepC (Below.refl _ _).drew db002, keepC (Below.refl _ _).drew db010, keepC (Below.refl _ _).drew db011, keepC (Below.refl _ _).drew db012, h_r0.keep (Below.refl _ _).drew, h_r1.keep (Below.refl _ _).drew⟩
  clear hB db000 db001 db002 db010 db011 db012 h_r0 h_r1
  simp only [List.take_succ_cons, List.take_zero, List.drop_succ_cons, List.drop_zero]
  refine Reg.wpS7_val (fun wq hq => ?gs16x0) ?ks16x0
  case gs16x0 => (obtain ⟨hB, db000, db001, db002, db010, db011, db012, h_r0, h_r1⟩ := hq.out; go_simp; first | done | (with_reducible rfl) | rfl)
  try simp only [Act.put, List.setIfInBounds_toArray, List.set_cons_zero, List.set_cons_succ]
  refine Reg.wpS7_val (fun wq hq => ?gs16x1) ?ks16x1
  case gs16x1 => (obtain ⟨hB, db000, db001, db002, db010, db011, db012, h_r0, h_r1⟩ := hq.out; go_simp; first | done | (with_reducible rfl) | rfl)
  try simp only [Act.put, List.setIfInBounds_toArray, List.set_cons_zero, List.set_cons_succ]
  refine Reg.wpS7_val (fun wq hq => ?gs16x2) ?ks16x2
  case gs16x2 => (obtain ⟨hB, db000, db001, db002, db010, db011, db012, h_r0, h_r1⟩ := hq.out; go_simp; first | done | (with_reducible rfl) | rfl)
  try simp only [Act.put, List.setIfInBounds_toArray, List.set_cons_zero, List.set_cons_succ]
  refine Reg.wpS7_val (fun wq hq => ?gs16x3) ?ks16x3
  case gs16x3 => (obtain ⟨hB, db000, db001, db002, db010, db011, db012, h_r0, h_r1⟩ := hq.out; go_simp; first | done | (with_reducible rfl) | rfl)
  try simp only [Act.put, List.setIfInBounds_toArray, List.set_cons_zero, List.set_cons_succ]
  refine Reg.wpS7_skip rfl (fun wq hq => ?gs16x4) ?ks16x4
  case gs16x4 =>
    obtain ⟨hB, db000, db001, db002, db010, db011, db012, h_r0, h_r1⟩ := hq.out
    have hres := h_r0
    obtain ⟨_, ⟨x0, cc0⟩, ⟨x1, cc1⟩, ⟨x2, cc2⟩, hz⟩ := h_r0
    have ff0 := hz 0 (by omega)
    have ff1 := hz 1 (by omega)
    have ff2 := hz 2 (by omega)
    exact ⟨put3 wq (w.heap.size) (la) (lb) (lc), by unfold put3; go_simp, hid ⟨below_put3 hB (by omega) _ _ _, cellP (put3_heap _ _ _ _ _) db000 (by dsimp only <;> omega), cellP (put3_heap _ _ _ _ _) db001 (by dsimp only <;> omega), cellP (put3_heap _ _ _ _ _) db002 (by dsimp only <;> omega), cellP (put3_heap _ _ _ _ _) db010 (by dsimp only <;> omega), cellP (put3_heap _ _ _ _ _) db011 (by dsimp only <;> omega), cellP (put3_heap _ _ _ _ _) db012 (by dsimp only <;> omega), hres.put _ _ _, h_r1.heap (by rw [put3_size]; exact Nat.le_refl _) (put3_heap _ _ _ _ _ _ (by omega))⟩⟩
  try simp only [Act.put, List.setIfInBounds_toArray, List.set_cons_zero, List.set_cons_succ]
  refine Reg.wpS7_skip rfl (fun wq hq => ?gs16x5) ?ks16x5
  case gs16x5 =>
    obtain ⟨hB, db000, db001, db002, db010, db011, db012, h_r0, h_r1⟩ := hq.out
    have hres := h_r1
    obtain ⟨_, ⟨x0, cc0⟩, ⟨x1, cc1⟩, ⟨x2, cc2⟩, hz⟩ := h_r1
    have ff0 := hz 0 (by omega)
    have ff1 := hz 1 (by omega)
    have ff2 := hz 2 (by omega)
    exact ⟨put3 wq (w.heap.size + 1) (ma) (mb) (mc), by unfold put3; go_simp, hid ⟨below_put3 hB (by omega) _ _ _, cellP (put3_heap _ _ _ _ _) db000 (by dsimp only <;> omega), cellP (put3_heap _ _ _ _ _) db001 (by dsimp only <;> omega), cellP (put3_heap _ _ _ _ _) db002 (by dsimp only <;> omega), cellP (put3_heap _ _ _ _ _) db010 (by dsimp only <;> omega), cellP (put3_heap _ _ _ _ _) db011 (by dsimp only <;> omega), cellP (put3_heap _ _ _ _ _) db012 (by dsimp only <;> omega), h_r0.heap (by rw [put3_size]; exact Nat.le_refl _) (put3_heap _ _ _ _ _ _ (by omega)), hres.put _ _ _⟩⟩
  try simp only [Act.put, List.setIfInBounds_toArray, List.set_cons_zero, List.set_cons_succ]
  intro w2 hq
  obtain ⟨hB, db000, db001, db002, db010, db011, db012, h_r0, h_r1⟩ := hq.out
  clear hq
  change wpList _ _ _ _ _ _
  obtain ⟨_, ⟨x00, cr00⟩, ⟨x01, cr01⟩, ⟨x02, cr02⟩, _⟩ := h_r0
  obtain ⟨_, ⟨x10, cr10⟩, ⟨x11, cr11⟩, ⟨x12, cr12⟩, _⟩ := h_r1
  go_wp2_with fail
  try simp only [Exit.inBlock, Exit.then]
  refine bodyPost_ret (by simp [results, Tryz.results11, go_sem, cr00, cr01, cr02, cr10, cr11, cr12]; try rfl) rfl ?_
  exact ⟨⟨_, _, _, _, _, _, _, rfl⟩, by first | exact hB | go_grown⟩
theorem drawParallelThrough_any (v : Value) (w : World) (hv : Bytes w w.heap.size v) :
    Calls Tryz.prog 16 #[v] w fun e w' => (∃ o0 o1a o1b o1c o2x o2y : Int, e = .returned (.tuple #[.int .i64 o0, .agg #[.int .i64 o1a, .int .i64 o1b, .int .i64 o1c], .agg #[.int .i64 o2x, .int .i64 o2y]])) ∧ Below w.heap.size w w' := by
  obtain ⟨B, hBw⟩ : ∃ B, B = w.heap.size := ⟨_, rfl⟩
  have hv0 : Bytes w B v := by rw [hBw]; exact hv
  clear hv
  go_enter Tryz.func16, Tryz.ntmps16
  go_wp2_with fail
  generalize hW : (World.alloc (World.alloc w (.cells #[.int .i64 0, .int .i64 0, .int .i64 0] 29)) (.cells #[.int .i64 0, .int .i64 0] 25)) = W
  have dr00 : W.cell? ⟨w.heap.size, 0, none⟩ = some (.int .i64 0) := by subst hW; go_simp
  have gr00 : W.frozen? ⟨w.heap.size, 0, none⟩ = false := by subst hW; go_simp
  have dr01 : W.cell? ⟨w.heap.size, 1, none⟩ = some (.int .i64 0) := by subst hW; go_simp
  have gr01 : W.frozen? ⟨w.heap.size, 1, none⟩ = false := by subst hW; go_simp
  have dr02 : W.cell? ⟨w.heap.size, 2, none⟩ = some (.int .i64 0) := by subst hW; go_simp
  have gr02 : W.frozen? ⟨w.heap.size, 2, none⟩ = false := by subst hW; go_simp
  have dr10 : W.cell? ⟨w.heap.size + 1, 0, none⟩ = some (.int .i64 0) := by subst hW; go_simp
  have gr10 : W.frozen? ⟨w.heap.size + 1, 0, none⟩ = false := by subst hW; go_simp
  have dr11 : W.cell? ⟨w.heap.size + 1, 1, none⟩ = some (.int .i64 0) := by subst hW; go_simp
  have gr11 : W.frozen? ⟨w.heap.size + 1, 1, none⟩ = false := by subst hW; go_simp
  have hv1 : Bytes W B v := by subst hW; exact ((hv0).alloc _).alloc _
  have hB : Below w.heap.size w W := by subst hW; go_grown
  have hbs : w.heap.size + 2 ≤ W.heap.size := by subst hW; simp
  clear hW hv0
  refine (flag1_any v _ (hv1.raise (by omega))).mono ?_
  rintro e w1 ⟨⟨p, ax, ay, la, lb, lc, rfl⟩, hbn⟩
  replace gr00 := keepF hbn dr00 gr00
  replace gr01 := keepF hbn dr01 gr01
  replace gr02 := keepF hbn dr02 gr02
  replace gr10 := keepF hbn dr10 gr10
  replace gr11 := keepF hbn dr11 gr11
  replace dr00 := keepC hbn dr00
  replace dr01 := keepC hbn dr01
  replace dr02 := keepC hbn dr02
  replace dr10 := keepC hbn dr10
  replace dr11 := keepC hbn dr11
  have hsz0 := hbn.size
  replace hB := below_of hB hbn hB.size
  clear hbn hv1
  go_wp2_with fail
  generalize hW : (World.alloc (World.alloc w1 (.cells #[.int .i64 ax, .int .i64 ay] 25)) (.cells #[.int .i64 la, .int .i64 lb, .int .i64 lc] 29)) = W3
  have db000 : W3.cell? ⟨w1.heap.size, 0, none⟩ = some (.int .i64 ax) := by subst hW; go_simp
  have db001 : W3.cell? ⟨w1.heap.size, 1, none⟩ = some (.int .i64 ay) := by subst hW; go_simp
  have db010 : W3.cell? ⟨w1.heap.size + 1, 0, none⟩ = some (.int .i64 la) := by subst hW; go_simp
  have db011 : W3.cell? ⟨w1.heap.size + 1, 1, none⟩ = some (.int .i64 lb) := by subst hW; go_simp
  have db012 : W3.cell? ⟨w1.heap.size + 1, 2, none⟩ = some (.int .i64 lc) := by subst hW; go_simp
  have hbn : Below w1.heap.size w1 W3 := by subst hW; go_grown
  replace gr00 := keepF hbn dr00 gr00
  replace gr01 := keepF hbn dr01 gr01
  replace gr02 := keepF hbn dr02 gr02
  replace gr10 := keepF hbn dr10 gr10
  replace gr11 := keepF hbn dr11 gr11
  replace dr00 := keepC hbn dr00
  replace dr01 := keepC hbn dr01
  replace dr02 := keepC hbn dr02
  replace dr10 := keepC hbn dr10
  replace dr11 := keepC hbn dr11
  have hle0 := hB.size
  replace hB := below_of hB hbn hB.size
  clear hW hbn
  generalize w1.heap.size = r_0 at *
  clear w1
  have h_r0 : Res3 _ (w.heap.size) := ⟨World.block_lt_of_cell? _ _ dr00, ⟨_, dr00⟩, ⟨_, dr01⟩, ⟨_, dr02⟩, fun j hj => by match j, hj with | 0, _ => exact gr00 | 1, _ => exact gr01 | 2, _ => exact gr02⟩
  have h_r1 : Res2 _ (w.heap.size + 1) := ⟨World.block_lt_of_cell? _ _ dr10, ⟨_, dr10⟩, ⟨_, dr11⟩, fun j hj => by match j, hj with | 0, _ => exact gr10 | 1, _ => exact gr11⟩
  clear dr00 gr00 dr01 gr01 dr02 gr02 dr10 gr10 dr11 gr11
  refine Reg.wp_region_steps7 (by kernel_rfl) 6 (by kernel_rfl) (fun wq => Hid (Below w.heap.size w wq ∧ wq.cell? ⟨r_0, 0, none⟩ = some (.int .i64 ax) ∧ wq.cell? ⟨r_0, 1, none⟩ = some (.int .i64 ay) ∧ wq.cell? ⟨r_0 + 1, 0, none⟩ = some (.int .i64 la) ∧ wq.cell? ⟨r_0 + 1, 1, none⟩ = some (.int .i64 lb) ∧ wq.cell? ⟨r_0 + 1, 2, none⟩ = some (.int .i64 lc) ∧ Res3 wq (w.heap.size) ∧ Res2 wq (w.heap.size + 1))) [(fun v => v = .int .i64 p), (fun v => v = .agg #[.int .i64 la, .int .i64 lb, .int .i64 lc]), (fun v => v = .agg #[.int .i64 ax, .int .i64 ay]), (fun v => v = .int .i64 p), Reg.anyV, Reg.anyV] (Reg.inh_cons ⟨_, rfl⟩ (Reg.inh_cons ⟨_, rfl⟩ (Reg.inh_cons ⟨_, rfl⟩ (Reg.inh_cons ⟨_, rfl⟩ (Reg.inh_cons ⟨undef, trivial⟩ (Reg.inh_cons ⟨undef, trivial⟩ (Reg.inh_nil))))))) ?_ ?_
  · exact hid ⟨hB.drew, keepC (Below.refl _ _).drew db000, keepC (Below.refl _ _).drew db001, keepC (Below.refl _ _).drew db010, keepC (Below.refl _ _).drew db011, keepC (Below.refl _ _).drew db012, h_r0.keep (Below.refl _ _).drew, h_r1.keep (Below.refl _ _).drew⟩
  clear hB db000 db001 db010 db011 db012 h_r0 h_r1
  simp only [List.take_succ_cons, List.take_zero, List.drop_succ_cons, List.drop_zero]
  refine Reg.wpS7_val (fun wq hq => ?gs17x0) ?ks17x0
  case gs17x0 => (obtain ⟨hB, db000, db001, db010, db011, db012, h_r0, h_r1⟩ := hq.out; go_simp; first | done | (with_reducible rfl) | rfl)
  try simp only [Act.put, List.setIfInBounds_toArray, List.set_cons_zero, List.set_cons_succ]
  refine Reg.wpS7_val (fun wq hq => ?gs17x1) ?ks17x1
  case gs17x1 => (obtain ⟨hB, db000, db001, db010, db011, db012, h_r0, h_r1⟩ := hq.out; go_simp; first | done | (with_reducible rfl) | rfl)
  try simp only [Act.put, List.setIfInBounds_toArray, List.set_cons_zero, List.set_cons_succ]
  refine Reg.wpS7_val (fun wq hq => ?gs17x2) ?ks17x2
  case gs17x2 => (obtain ⟨hB, db000, db001, db010, db011, db012, h_r0, h_r1⟩ := hq.out; go_simp; first | done | (with_reducible rfl) | rfl)
  try simp only [Act.put, List.setIfInBounds_toArray, List.set_cons_zero, List.set_cons_succ]
  refine Reg.wpS7_val (fun wq hq => ?gs17x3) ?ks17x3
  case gs17x3 => (obtain ⟨hB, db000, db001, db010, db011, db012, h_r0, h_r1⟩ := hq.out; go_simp; first | done | (with_reducible rfl) | rfl)
  try simp only [Act.put, List.setIfInBounds_toArray, List.set_cons_zero, List.set_cons_succ]
  refine Reg.wpS7_skip rfl (fun wq hq => ?gs17x4) ?ks17x4
  case gs17x4 =>
    obtain ⟨hB, db000, db001, db010, db011, db012, h_r0, h_r1⟩ := hq.out
    have hres := h_r0
    obtain ⟨_, ⟨x0, cc0⟩, ⟨x1, cc1⟩, ⟨x2, cc2⟩, hz⟩ := h_r0
    have ff0 := hz 0 (by omega)
    have ff1 := hz 1 (by omega)
    have ff2 := hz 2 (by omega)
    exact ⟨put3 wq (w.heap.size) (la) (lb) (lc), by unfold put3; go_simp, hid ⟨below_put3 hB (by omega) _ _ _, cellP (put3_heap _ _ _ _ _) db000 (by dsimp only <;> omega), cellP (put3_heap _ _ _ _ _) db001 (by dsimp only <;> omega), cellP (put3_heap _ _ _ _ _) db010 (by dsimp only <;> omega), cellP (put3_heap _ _ _ _ _) db011 (by dsimp only <;> omega), cellP (put3_heap _ _ _ _ _) db012 (by dsimp only <;> omega), hres.put _ _ _, h_r1.heap (by rw [put3_size]; exact Nat.le_refl _) (put3_heap _ _ _ _ _ _ (by omega))⟩⟩
  try simp only [Act.put, List.setIfInBounds_toArray, List.set_cons_zero, List.set_cons_succ]
  refine Reg.wpS7_skip rfl (fun wq hq => ?gs17x5) ?ks17x5
  case gs17x5 =>
    obtain ⟨hB, db000, db001, db010, db011, db012, h_r0, h_r1⟩ := hq.out
    have hres := h_r1
    obtain ⟨_, ⟨x0, cc0⟩, ⟨x1, cc1⟩, hz⟩ := h_r1
    have ff0 := hz 0 (by omega)
    have ff1 := hz 1 (by omega)
    exact ⟨put2 wq (w.heap.size + 1) (ax) (ay), by unfold put2; go_simp, hid ⟨below_put2 hB (by omega) _ _, cellP (put2_heap _ _ _ _) db000 (by dsimp only <;> omega), cellP (put2_heap _ _ _ _) db001 (by dsimp only <;> omega), cellP (put2_heap _ _ _ _) db010 (by dsimp only <;> omega), cellP (put2_heap _ _ _ _) db011 (by dsimp only <;> omega), cellP (put2_heap _ _ _ _) db012 (by dsimp only <;> omega), h_r0.heap (by rw [put2_size]; exact Nat.le_refl _) (put2_heap _ _ _ _ _ (by omega)), hres.put _ _⟩⟩
  try simp only [Act.put, List.setIfInBounds_toArray, List.set_cons_zero, List.set_cons_succ]
  intro w2 hq
  obtain ⟨hB, db000, db001, db010, db011, db012, h_r0, h_r1⟩ := hq.out
  clear hq
  change wpList _ _ _ _ _ _
  obtain ⟨_, ⟨x00, cr00⟩, ⟨x01, cr01⟩, ⟨x02, cr02⟩, _⟩ := h_r0
  obtain ⟨_, ⟨x10, cr10⟩, ⟨x11, cr11⟩, _⟩ := h_r1
  go_wp2_with fail
  try simp only [Exit.inBlock, Exit.then]
  refine bodyPost_ret (by simp [results, Tryz.results16, go_sem, cr00, cr01, cr02, cr10, cr11]; try rfl) rfl ?_
  exact ⟨⟨_, _, _, _, _, _, rfl⟩, by first | exact hB | go_grown⟩
theorem drawPointsOn_any (v : Value) (w : World) (hv : Bytes w w.heap.size v) :
    Calls Tryz.prog 22 #[v] w fun e w' => (∃ o0 o1a o1b o1c : Int, e = .returned (.tuple #[.int .i64 o0, .agg #[.int .i64 o1a, .int .i64 o1b, .int .i64 o1c]])) ∧ Below w.heap.size w w' := by
  obtain ⟨B, hBw⟩ : ∃ B, B = w.heap.size := ⟨_, rfl⟩
  have hv0 : Bytes w B v := by rw [hBw]; exact hv
  clear hv
  go_enter Tryz.func22, Tryz.ntmps22
  go_wp2_with fail
  generalize hW : (World.alloc w (.cells #[.int .i64 0, .int .i64 0, .int .i64 0] 29)) = W
  have dr00 : W.cell? ⟨w.heap.size, 0, none⟩ = some (.int .i64 0) := by subst hW; go_simp
  have gr00 : W.frozen? ⟨w.heap.size, 0, none⟩ = false := by subst hW; go_simp
  have dr01 : W.cell? ⟨w.heap.size, 1, none⟩ = some (.int .i64 0) := by subst hW; go_simp
  have gr01 : W.frozen? ⟨w.heap.size, 1, none⟩ = false := by subst hW; go_simp
  have dr02 : W.cell? ⟨w.heap.size, 2, none⟩ = some (.int .i64 0) := by subst hW; go_simp
  have gr02 : W.frozen? ⟨w.heap.size, 2, none⟩ = false := by subst hW; go_simp
  have hv1 : Bytes W B v := by subst hW; exact (hv0).alloc _
  have hB : Below w.heap.size w W := by subst hW; go_grown
  have hbs : w.heap.size + 1 ≤ W.heap.size := by subst hW; simp
  clear hW hv0
  refine (flag1_any v _ (hv1.raise (by omega))).mono ?_
  rintro e w1 ⟨⟨p, ax, ay, la, lb, lc, rfl⟩, hbn⟩
  replace gr00 := keepF hbn dr00 gr00
  replace gr01 := keepF hbn dr01 gr01
  replace gr02 := keepF hbn dr02 gr02
  replace dr00 := keepC hbn dr00
  replace dr01 := keepC hbn dr01
  replace dr02 := keepC hbn dr02
  have hsz0 := hbn.size
  replace hB := below_of hB hbn hB.size
  clear hbn hv1
  go_wp2_with fail
  generalize hW : (World.alloc (World.alloc w1 (.cells #[.int .i64 ax, .int .i64 ay] 25)) (.cells #[.int .i64 la, .int .i64 lb, .int .i64 lc] 29)) = W3
  have db000 : W3.cell? ⟨w1.heap.size, 0, none⟩ = some (.int .i64 ax) := by subst hW; go_simp
  have db001 : W3.cell? ⟨w1.heap.size, 1, none⟩ = some (.int .i64 ay) := by subst hW; go_simp
  have db010 : W3.cell? ⟨w1.heap.size + 1, 0, none⟩ = some (.int .i64 la) := by subst hW; go_simp
  have db011 : W3.cell? ⟨w1.heap.size + 1, 1, none⟩ = some (.int .i64 lb) := by subst hW; go_simp
  have db012 : W3.cell? ⟨w1.heap.size + 1, 2, none⟩ = some (.int .i64 lc) := by subst hW; go_simp
  have hbn : Below w1.heap.size w1 W3 := by subst hW; go_grown
  replace gr00 := keepF hbn dr00 gr00
  replace gr01 := keepF hbn dr01 gr01
  replace gr02 := keepF hbn dr02 gr02
  replace dr00 := keepC hbn dr00
  replace dr01 := keepC hbn dr01
  replace dr02 := keepC hbn dr02
  have hle0 := hB.size
  replace hB := below_of hB hbn hB.size
  clear hW hbn
  generalize w1.heap.size = r_0 at *
  clear w1
  have h_r0 : Res3 _ (w.heap.size) := ⟨World.block_lt_of_cell? _ _ dr00, ⟨_, dr00⟩, ⟨_, dr01⟩, ⟨_, dr02⟩, fun j hj => by match j, hj with | 0, _ => exact gr00 | 1, _ => exact gr01 | 2, _ => exact gr02⟩
  clear dr00 gr00 dr01 gr01 dr02 gr02
  refine Reg.wp_region_steps7 (by kernel_rfl) 4 (by kernel_rfl) (fun wq => Hid (Below w.heap.size w wq ∧ wq.cell? ⟨r_0, 0, none⟩ = some (.int .i64 ax) ∧ wq.cell? ⟨r_0, 1, none⟩ = some (.int .i64 ay) ∧ wq.cell? ⟨r_0 + 1, 0, none⟩ = some (.int .i64 la) ∧ wq.cell? ⟨r_0 + 1, 1, none⟩ = some (.int .i64 lb) ∧ wq.cell? ⟨r_0 + 1, 2, none⟩ = some (.int .i64 lc) ∧ Res3 wq (w.heap.size))) [(fun v => v = .int .i64 p), (fun v => v = .agg #[.int .i64 la, .int .i64 lb, .int .i64 lc]), (fun v => v = .int .i64 p), Reg.anyV] (Reg.inh_cons ⟨_, rfl⟩ (Reg.inh_cons ⟨_, rfl⟩ (Reg.inh_cons ⟨_, rfl⟩ (Reg.inh_cons ⟨undef, trivial⟩ (Reg.inh_nil))))) ?_ ?_
  · exact hid ⟨hB.drew, keepC (Below.refl _ _).drew db000, keepC (Below.refl _ _).drew db001, keepC (Below.refl _ _).drew db010, keepC (Below.refl _ _).drew db011, keepC (Below.refl _ _).drew db012, h_r0.keep (Below.refl _ _).drew⟩
  clear hB db000 db001 db010 db011 db012 h_r0
  simp only [List.take_succ_cons, List.take_zero, List.drop_succ_cons, List.drop_zero]
  refine Reg.wpS7_val (fun wq hq => ?gs18x0) ?ks18x0
  case gs18x0 => (obtain ⟨hB, db000, db001, db010, db011, db012, h_r0⟩ := hq.out; go_simp; first | done | (with_reducible rfl) | rfl)
  try simp only [Act.put, List.setIfInBounds_toArray, List.set_cons_zero, List.set_cons_succ]
  refine Reg.wpS7_val (fun wq hq => ?gs18x1) ?ks18x1
  case gs18x1 => (obtain ⟨hB, db000, db001, db010, db011, db012, h_r0⟩ := hq.out; go_simp; first | done | (with_reducible rfl) | rfl)
  try simp only [Act.put, List.setIfInBounds_toArray, List.set_cons_zero, List.set_cons_succ]
  refine Reg.wpS7_val (fun wq hq => ?gs18x2) ?ks18x2
  case gs18x2 => (obtain ⟨hB, db000, db001, db010, db011, db012, h_r0⟩ := hq.out; go_simp; first | done | (with_reducible rfl) | rfl)
  try simp only [Act.put, List.setIfInBounds_toArray, List.set_cons_zero, List.set_cons_succ]
  refine Reg.wpS7_skip rfl (fun wq hq => ?gs18x3) ?ks18x3
  case gs18x3 =>
    obtain ⟨hB, db000, db001, db010, db011, db012, h_r0⟩ := hq.out
    have hres := h_r0
    obtain ⟨_, ⟨x0, cc0⟩, ⟨x1, cc1⟩, ⟨x2, cc2⟩, hz⟩ := h_r0
    have ff0 := hz 0 (by omega)
    have ff1 := hz 1 (by omega)
    have ff2 := hz 2 (by omega)
    exact ⟨put3 wq (w.heap.size) (la) (lb) (lc), by unfold put3; go_simp, hid ⟨below_put3 hB (by omega) _ _ _, cellP (put3_heap _ _ _ _ _) db000 (by dsimp only <;> omega), cellP (put3_heap _ _ _ _ _) db001 (by dsimp only <;> omega), cellP (put3_heap _ _ _ _ _) db010 (by dsimp only <;> omega), cellP (put3_heap _ _ _ _ _) db011 (by dsimp only <;> omega), cellP (put3_heap _ _ _ _ _) db012 (by dsimp only <;> omega), hres.put _ _ _⟩⟩
  try simp only [Act.put, List.setIfInBounds_toArray, List.set_cons_zero, List.set_cons_succ]
  intro w2 hq
  obtain ⟨hB, db000, db001, db010, db011, db012, h_r0⟩ := hq.out
  clear hq
  change wpList _ _ _ _ _ _
  obtain ⟨_, ⟨x00, cr00⟩, ⟨x01, cr01⟩, ⟨x02, cr02⟩, _⟩ := h_r0
  go_wp2_with fail
  try simp only [Exit.inBlock, Exit.then]
  refine bodyPost_ret (by simp [results, Tryz.results22, go_sem, cr00, cr01, cr02]; try rfl) rfl ?_
  exact ⟨⟨_, _, _, _, rfl⟩, by first | exact hB | go_grown⟩
theorem drawLinesThrough_any (v : Value) (w : World) (hv : Bytes w w.heap.size v) :
    Calls Tryz.prog 24 #[v] w fun e w' => (∃ o0 o1x o1y : Int, e = .returned (.tuple #[.int .i64 o0, .agg #[.int .i64 o1x, .int .i64 o1y]])) ∧ Below w.heap.size w w' := by
  obtain ⟨B, hBw⟩ : ∃ B, B = w.heap.size := ⟨_, rfl⟩
  have hv0 : Bytes w B v := by rw [hBw]; exact hv
  clear hv
  go_enter Tryz.func24, Tryz.ntmps24
  go_wp2_with fail
  generalize hW : (World.alloc w (.cells #[.int .i64 0, .int .i64 0] 25)) = W
  have dr00 : W.cell? ⟨w.heap.size, 0, none⟩ = some (.int .i64 0) := by subst hW; go_simp
  have gr00 : W.frozen? ⟨w.heap.size, 0, none⟩ = false := by subst hW; go_simp
  have dr01 : W.cell? ⟨w.heap.size, 1, none⟩ = some (.int .i64 0) := by subst hW; go_simp
  have gr01 : W.frozen? ⟨w.heap.size, 1, none⟩ = false := by subst hW; go_simp
  have hv1 : Bytes W B v := by subst hW; exact (hv0).alloc _
  have hB : Below w.heap.size w W := by subst hW; go_grown
  have hbs : w.heap.size + 1 ≤ W.heap.size := by subst hW; simp
  clear hW hv0
  refine (flag1_any v _ (hv1.raise (by omega))).mono ?_
  rintro e w1 ⟨⟨p, ax, ay, la, lb, lc, rfl⟩, hbn⟩
  replace gr00 := keepF hbn dr00 gr00
  replace gr01 := keepF hbn dr01 gr01
  replace dr00 := keepC hbn dr00
  replace dr01 := keepC hbn dr01
  have hsz0 := hbn.size
  replace hB := below_of hB hbn hB.size
  clear hbn hv1
  go_wp2_with fail
  generalize hW : (World.alloc (World.alloc w1 (.cells #[.int .i64 ax, .int .i64 ay] 25)) (.cells #[.int .i64 la, .int .i64 lb, .int .i64 lc] 29)) = W3
  have db000 : W3.cell? ⟨w1.heap.size, 0, none⟩ = some (.int .i64 ax) := by subst hW; go_simp
  have db001 : W3.cell? ⟨w1.heap.size, 1, none⟩ = some (.int .i64 ay) := by subst hW; go_simp
  have db010 : W3.cell? ⟨w1.heap.size + 1, 0, none⟩ = some (.int .i64 la) := by subst hW; go_simp
  have db011 : W3.cell? ⟨w1.heap.size + 1, 1, none⟩ = some (.int .i64 lb) := by subst hW; go_simp
  have db012 : W3.cell? ⟨w1.heap.size + 1, 2, none⟩ = some (.int .i64 lc) := by subst hW; go_simp
  have hbn : Below w1.heap.size w1 W3 := by subst hW; go_grown
  replace gr00 := keepF hbn dr00 gr00
  replace gr01 := keepF hbn dr01 gr01
  replace dr00 := keepC hbn dr00
  replace dr01 := keepC hbn dr01
  have hle0 := hB.size
  replace hB := below_of hB hbn hB.size
  clear hW hbn
  generalize w1.heap.size = r_0 at *
  clear w1
  have h_r0 : Res2 _ (w.heap.size) := ⟨World.block_lt_of_cell? _ _ dr00, ⟨_, dr00⟩, ⟨_, dr01⟩, fun j hj => by match j, hj with | 0, _ => exact gr00 | 1, _ => exact gr01⟩
  clear dr00 gr00 dr01 gr01
  refine Reg.wp_region_steps7 (by kernel_rfl) 4 (by kernel_rfl) (fun wq => Hid (Below w.heap.size w wq ∧ wq.cell? ⟨r_0, 0, none⟩ = some (.int .i64 ax) ∧ wq.cell? ⟨r_0, 1, none⟩ = some (.int .i64 ay) ∧ wq.cell? ⟨r_0 + 1, 0, none⟩ = some (.int .i64 la) ∧ wq.cell? ⟨r_0 + 1, 1, none⟩ = some (.int .i64 lb) ∧ wq.cell? ⟨r_0 + 1, 2, none⟩ = some (.int .i64 lc) ∧ Res2 wq (w.heap.size))) [(fun v => v = .int .i64 p), (fun v => v = .agg #[.int .i64 ax, .int .i64 ay]), (fun v => v = .int .i64 p), Reg.anyV] (Reg.inh_cons ⟨_, rfl⟩ (Reg.inh_cons ⟨_, rfl⟩ (Reg.inh_cons ⟨_, rfl⟩ (Reg.inh_cons ⟨undef, trivial⟩ (Reg.inh_nil))))) ?_ ?_
  · exact hid ⟨hB.drew, keepC (Below.refl _ _).drew db000, keepC (Below.refl _ _).drew db001, keepC (Below.refl _ _).drew db010, keepC (Below.refl _ _).drew db011, keepC (Below.refl _ _).drew db012, h_r0.keep (Below.refl _ _).drew⟩
  clear hB db000 db001 db010 db011 db012 h_r0
  simp only [List.take_succ_cons, List.take_zero, List.drop_succ_cons, List.drop_zero]
  refine Reg.wpS7_val (fun wq hq => ?gs19x0) ?ks19x0
  case gs19x0 => (obtain ⟨hB, db000, db001, db010, db011, db012, h_r0⟩ := hq.out; go_simp; first | done | (with_reducible rfl) | rfl)
  try simp only [Act.put, List.setIfInBounds_toArray, List.set_cons_zero, List.set_cons_succ]
  refine Reg.wpS7_val (fun wq hq => ?gs19x1) ?ks19x1
  case gs19x1 => (obtain ⟨hB, db000, db001, db010, db011, db012, h_r0⟩ := hq.out; go_simp; first | done | (with_reducible rfl) | rfl)
  try simp only [Act.put, List.setIfInBounds_toArray, List.set_cons_zero, List.set_cons_succ]
  refine Reg.wpS7_val (fun wq hq => ?gs19x2) ?ks19x2
  case gs19x2 => (obtain ⟨hB, db000, db001, db010, db011, db012, h_r0⟩ := hq.out; go_simp; first | done | (with_reducible rfl) | rfl)
  try simp only [Act.put, List.setIfInBounds_toArray, List.set_cons_zero, List.set_cons_succ]
  refine Reg.wpS7_skip rfl (fun wq hq => ?gs19x3) ?ks19x3
  case gs19x3 =>
    obtain ⟨hB, db000, db001, db010, db011, db012, h_r0⟩ := hq.out
    have hres := h_r0
    obtain ⟨_, ⟨x0, cc0⟩, ⟨x1, cc1⟩, hz⟩ := h_r0
    have ff0 := hz 0 (by omega)
    have ff1 := hz 1 (by omega)
    exact ⟨put2 wq (w.heap.size) (ax) (ay), by unfold put2; go_simp, hid ⟨below_put2 hB (by omega) _ _, cellP (put2_heap _ _ _ _) db000 (by dsimp only <;> omega), cellP (put2_heap _ _ _ _) db001 (by dsimp only <;> omega), cellP (put2_heap _ _ _ _) db010 (by dsimp only <;> omega), cellP (put2_heap _ _ _ _) db011 (by dsimp only <;> omega), cellP (put2_heap _ _ _ _) db012 (by dsimp only <;> omega), hres.put _ _⟩⟩
  try simp only [Act.put, List.setIfInBounds_toArray, List.set_cons_zero, List.set_cons_succ]
  intro w2 hq
  obtain ⟨hB, db000, db001, db010, db011, db012, h_r0⟩ := hq.out
  clear hq
  change wpList _ _ _ _ _ _
  obtain ⟨_, ⟨x00, cr00⟩, ⟨x01, cr01⟩, _⟩ := h_r0
  go_wp2_with fail
  try simp only [Exit.inBlock, Exit.then]
  refine bodyPost_ret (by simp [results, Tryz.results24, go_sem, cr00, cr01]; try rfl) rfl ?_
  exact ⟨⟨_, _, _, rfl⟩, by first | exact hB | go_grown⟩
theorem drawIsOnLine_any (v : Value) (w : World) (hv : Bytes w w.heap.size v) :
    Calls Tryz.prog 34 #[v] w fun e w' => (∃ o0 o1x o1y o2a o2b o2c : Int, e = .returned (.tuple #[.int .i64 o0, .agg #[.int .i64 o1x, .int .i64 o1y], .agg #[.int .i64 o2a, .int .i64 o2b, .int .i64 o2c]])) ∧ Below w.heap.size w w' := by
  obtain ⟨B, hBw⟩ : ∃ B, B = w.heap.size := ⟨_, rfl⟩
  have hv0 : Bytes w B v := by rw [hBw]; exact hv
  clear hv
  go_enter Tryz.func34, Tryz.ntmps34
  go_wp2_with fail
  generalize hW : (World.alloc (World.alloc w (.cells #[.int .i64 0, .int .i64 0] 25)) (.cells #[.int .i64 0, .int .i64 0, .int .i64 0] 29)) = W
  have dr00 : W.cell? ⟨w.heap.size, 0, none⟩ = some (.int .i64 0) := by subst hW; go_simp
  have gr00 : W.frozen? ⟨w.heap.size, 0, none⟩ = false := by subst hW; go_simp
  have dr01 : W.cell? ⟨w.heap.size, 1, none⟩ = some (.int .i64 0) := by subst hW; go_simp
  have gr01 : W.frozen? ⟨w.heap.size, 1, none⟩ = false := by subst hW; go_simp
  have dr10 : W.cell? ⟨w.heap.size + 1, 0, none⟩ = some (.int .i64 0) := by subst hW; go_simp
  have gr10 : W.frozen? ⟨w.heap.size + 1, 0, none⟩ = false := by subst hW; go_simp
  have dr11 : W.cell? ⟨w.heap.size + 1, 1, none⟩ = some (.int .i64 0) := by subst hW; go_simp
  have gr11 : W.frozen? ⟨w.heap.size + 1, 1, none⟩ = false := by subst hW; go_simp
  have dr12 : W.cell? ⟨w.heap.size + 1, 2, none⟩ = some (.int .i64 0) := by subst hW; go_simp
  have gr12 : W.frozen? ⟨w.heap.size + 1, 2, none⟩ = false := by subst hW; go_simp
  have hv1 : Bytes W B v := by subst hW; exact ((hv0).alloc _).alloc _
  have hB : Below w.heap.size w W := by subst hW; go_grown
  have hbs : w.heap.size + 2 ≤ W.heap.size := by subst hW; simp
  clear hW hv0
  refine (flag1_any v _ (hv1.raise (by omega))).mono ?_
  rintro e w1 ⟨⟨p, ax, ay, la, lb, lc, rfl⟩, hbn⟩
  replace gr00 := keepF hbn dr00 gr00
  replace gr01 := keepF hbn dr01 gr01
  replace gr10 := keepF hbn dr10 gr10
  replace gr11 := keepF hbn dr11 gr11
  replace gr12 := keepF hbn dr12 gr12
  replace dr00 := keepC hbn dr00
  replace dr01 := keepC hbn dr01
  replace dr10 := keepC hbn dr10
  replace dr11 := keepC hbn dr11
  replace dr12 := keepC hbn dr12
  have hsz0 := hbn.size
  replace hB := below_of hB hbn hB.size
  clear hbn hv1
  go_wp2_with fail
  generalize hW : (World.alloc (World.alloc w1 (.cells #[.int .i64 ax, .int .i64 ay] 25)) (.cells #[.int .i64 la, .int .i64 lb, .int .i64 lc] 29)) = W3
  have db000 : W3.cell? ⟨w1.heap.size, 0, none⟩ = some (.int .i64 ax) := by subst hW; go_simp
  have db001 : W3.cell? ⟨w1.heap.size, 1, none⟩ = some (.int .i64 ay) := by subst hW; go_simp
  have db010 : W3.cell? ⟨w1.heap.size + 1, 0, none⟩ = some (.int .i64 la) := by subst hW; go_simp
  have db011 : W3.cell? ⟨w1.heap.size + 1, 1, none⟩ = some (.int .i64 lb) := by subst hW; go_simp
  have db012 : W3.cell? ⟨w1.heap.size + 1, 2, none⟩ = some (.int .i64 lc) := by subst hW; go_simp
  have hbn : Below w1.heap.size w1 W3 := by subst hW; go_grown
  replace gr00 := keepF hbn dr00 gr00
  replace gr01 := keepF hbn dr01 gr01
  replace gr10 := keepF hbn dr10 gr10
  replace gr11 := keepF hbn dr11 gr11
  replace gr12 := keepF hbn dr12 gr12
  replace dr00 := keepC hbn dr00
  replace dr01 := keepC hbn dr01
  replace dr10 := keepC hbn dr10
  replace dr11 := keepC hbn dr11
  replace dr12 := keepC hbn dr12
  have hle0 := hB.size
  replace hB := below_of hB hbn hB.size
  clear hW hbn
  generalize w1.heap.size = r_0 at *
  clear w1
  have h_r0 : Res2 _ (w.heap.size) := ⟨World.block_lt_of_cell? _ _ dr00, ⟨_, dr00⟩, ⟨_, dr01⟩, fun j hj => by match j, hj with | 0, _ => exact gr00 | 1, _ => exact gr01⟩
  have h_r1 : Res3 _ (w.heap.size + 1) := ⟨World.block_lt_of_cell? _ _ dr10, ⟨_, dr10⟩, ⟨_, dr11⟩, ⟨_, dr12⟩, fun j hj => by match j, hj with | 0, _ => exact gr10 | 1, _ => exact gr11 | 2, _ => exact gr12⟩
  clear dr00 gr00 dr01 gr01 dr10 gr10 dr11 gr11 dr12 gr12
  refine Reg.wp_region_steps7 (by kernel_rfl) 6 (by kernel_rfl) (fun wq => Hid (Below w.heap.size w wq ∧ wq.cell? ⟨r_0, 0, none⟩ = some (.int .i64 ax) ∧ wq.cell? ⟨r_0, 1, none⟩ = some (.int .i64 ay) ∧ wq.cell? ⟨r_0 + 1, 0, none⟩ = some (.int .i64 la) ∧ wq.cell? ⟨r_0 + 1, 1, none⟩ = some (.int .i64 lb) ∧ wq.cell? ⟨r_0 + 1, 2, none⟩ = some (.int .i64 lc) ∧ Res2 wq (w.heap.size) ∧ Res3 wq (w.heap.size + 1))) [(fun v => v = .int .i64 p), (fun v => v = .agg #[.int .i64 ax, .int .i64 ay]), (fun v => v = .agg #[.int .i64 la, .int .i64 lb, .int .i64 lc]), (fun v => v = .int .i64 p), Reg.anyV, Reg.anyV] (Reg.inh_cons ⟨_, rfl⟩ (Reg.inh_cons ⟨_, rfl⟩ (Reg.inh_cons ⟨_, rfl⟩ (Reg.inh_cons ⟨_, rfl⟩ (Reg.inh_cons ⟨undef, trivial⟩ (Reg.inh_cons ⟨undef, trivial⟩ (Reg.inh_nil))))))) ?_ ?_
  · exact hid ⟨hB.drew, keepC (Below.refl _ _).drew db000, keepC (Below.refl _ _).drew db001, keepC (Below.refl _ _).drew db010, keepC (Below.refl _ _).drew db011, keepC (Below.refl _ _).drew db012, h_r0.keep (Below.refl _ _).drew, h_r1.keep (Below.refl _ _).drew⟩
  clear hB db000 db001 db010 db011 db012 h_r0 h_r1
  simp only [List.take_succ_cons, List.take_zero, List.drop_succ_cons, List.drop_zero]
  refine Reg.wpS7_val (fun wq hq => ?gs20x0) ?ks20x0
  case gs20x0 => (obtain ⟨hB, db000, db001, db010, db011, db012, h_r0, h_r1⟩ := hq.out; go_simp; first | done | (with_reducible rfl) | rfl)
  try simp only [Act.put, List.setIfInBounds_toArray, List.set_cons_zero, List.set_cons_succ]
  refine Reg.wpS7_val (fun wq hq => ?gs20x1) ?ks20x1
  case gs20x1 => (obtain ⟨hB, db000, db001, db010, db011, db012, h_r0, h_r1⟩ := hq.out; go_simp; first | done | (with_reducible rfl) | rfl)
  try simp only [Act.put, List.setIfInBounds_toArray, List.set_cons_zero, List.set_cons_succ]
  refine Reg.wpS7_val (fun wq hq => ?gs20x2) ?ks20x2
  case gs20x2 => (obtain ⟨hB, db000, db001, db010, db011, db012, h_r0, h_r1⟩ := hq.out; go_simp; first | done | (with_reducible rfl) | rfl)
  try simp only [Act.put, List.setIfInBounds_toArray, List.set_cons_zero, List.set_cons_succ]
  refine Reg.wpS7_val (fun wq hq => ?gs20x3) ?ks20x3
  case gs20x3 => (obtain ⟨hB, db000, db001, db010, db011, db012, h_r0, h_r1⟩ := hq.out; go_simp; first | done | (with_reducible rfl) | rfl)
  try simp only [Act.put, List.setIfInBounds_toArray, List.set_cons_zero, List.set_cons_succ]
  refine Reg.wpS7_skip rfl (fun wq hq => ?gs20x4) ?ks20x4
  case gs20x4 =>
    obtain ⟨hB, db000, db001, db010, db011, db012, h_r0, h_r1⟩ := hq.out
    have hres := h_r0
    obtain ⟨_, ⟨x0, cc0⟩, ⟨x1, cc1⟩, hz⟩ := h_r0
    have ff0 := hz 0 (by omega)
    have ff1 := hz 1 (by omega)
    exact ⟨put2 wq (w.heap.size) (ax) (ay), by unfold put2; go_simp, hid ⟨below_put2 hB (by omega) _ _, cellP (put2_heap _ _ _ _) db000 (by dsimp only <;> omega), cellP (put2_heap _ _ _ _) db001 (by dsimp only <;> omega), cellP (put2_heap _ _ _ _) db010 (by dsimp only <;> omega), cellP (put2_heap _ _ _ _) db011 (by dsimp only <;> omega), cellP (put2_heap _ _ _ _) db012 (by dsimp only <;> omega), hres.put _ _, h_r1.heap (by rw [put2_size]; exact Nat.le_refl _) (put2_heap _ _ _ _ _ (by omega))⟩⟩
  try simp only [Act.put, List.setIfInBounds_toArray, List.set_cons_zero, List.set_cons_succ]
  refine Reg.wpS7_skip rfl (fun wq hq => ?gs20x5) ?ks20x5
  case gs20x5 =>
    obtain ⟨hB, db000, db001, db010, db011, db012, h_r0, h_r1⟩ := hq.out
    have hres := h_r1
    obtain ⟨_, ⟨x0, cc0⟩, ⟨x1, cc1⟩, ⟨x2, cc2⟩, hz⟩ := h_r1
    have ff0 := hz 0 (by omega)
    have ff1 := hz 1 (by omega)
    have ff2 := hz 2 (by omega)
    exact ⟨put3 wq (w.heap.size + 1) (la) (lb) (lc), by unfold put3; go_simp, hid ⟨below_put3 hB (by omega) _ _ _, cellP (put3_heap _ _ _ _ _) db000 (by dsimp only <;> omega), cellP (put3_heap _ _ _ _ _) db001 (by dsimp only <;> omega), cellP (put3_heap _ _ _ _ _) db010 (by dsimp only <;> omega), cellP (put3_heap _ _ _ _ _) db011 (by dsimp only <;> omega), cellP (put3_heap _ _ _ _ _) db012 (by dsimp only <;> omega), h_r0.heap (by rw [put3_size]; exact Nat.le_refl _) (put3_heap _ _ _ _ _ _ (by omega)), hres.put _ _ _⟩⟩
  try simp only [Act.put, List.setIfInBounds_toArray, List.set_cons_zero, List.set_cons_succ]
  intro w2 hq
  obtain ⟨hB, db000, db001, db010, db011, db012, h_r0, h_r1⟩ := hq.out
  clear hq
  change wpList _ _ _ _ _ _
  obtain ⟨_, ⟨x00, cr00⟩, ⟨x01, cr01⟩, _⟩ := h_r0
  obtain ⟨_, ⟨x10, cr10⟩, ⟨x11, cr11⟩, ⟨x12, cr12⟩, _⟩ := h_r1
  go_wp2_with fail
  try simp only [Exit.inBlock, Exit.then]
  refine bodyPost_ret (by simp [results, Tryz.results34, go_sem, cr00, cr01, cr10, cr11, cr12]; try rfl) rfl ?_
  exact ⟨⟨_, _, _, _, _, _, rfl⟩, by first | exact hB | go_grown⟩
theorem drawLineOf_any (v : Value) (w : World) (hv : Bytes w w.heap.size v) :
    Calls Tryz.prog 19 #[v] w fun e w' => (∃ o0 o1 o2 o3 : Int, e = .returned (.tuple #[.int .i64 o0, .int .i64 o1, .int .i64 o2, .int .i64 o3])) ∧ Below w.heap.size w w' := by
  obtain ⟨B, hBw⟩ : ∃ B, B = w.heap.size := ⟨_, rfl⟩
  have hv0 : Bytes w B v := by rw [hBw]; exact hv
  clear hv
  go_enter Tryz.func19, Tryz.ntmps19
  go_wp2_with fail
  have hB := Below.refl w.heap.size w
  refine (from_any v B w hv0 (by omega)).mono ?_
  rintro e w1 ⟨rfl, hs, hbn⟩
  have hG : w.grownBy w1 (some w.heap.size) := grown_below (below_of hB hbn hB.size)
  clear hB hbn hv0
  generalize hbs : w.heap.size = bs at *
  have hlow := hs.low
  go_wp2_with fail
  go_wp2_with fail
  refine (drawField_any B bs v _ hs).mono ?_
  rintro e w' ⟨⟨p, rfl, hpm⟩, hs', hG'⟩
  replace hs := hs'
  replace hG := grownBy_trans hG hG'
  clear hs' hG'
  have hf := field_of hpm
  have hp := Pl.field_bd hf
  obtain ⟨hp1, hp2⟩ := hp
  clear hpm
  go_wp2_with fail
  refine (near1_any (p - 1) (by omega) (by omega) B bs v _ hs).mono ?_
  rintro e w' ⟨⟨a, rfl⟩, hs', hG'⟩
  replace hs := hs'
  replace hG := grownBy_trans hG hG'
  clear hs' hG'
  go_wp2_with (go_at_call 70; refine (pickL [0, 1, 1] 3 rfl (by omega) (by omega) B bs v _ hs _ _ rfl).mono ?_; rintro e w' ⟨⟨q, rfl, hq⟩, hs', hG'⟩; replace hs := hs'; replace hG := grownBy_trans hG hG')
  refine (near1_any (p - 1) (by omega) (by omega) B bs v _ hs).mono ?_
  rintro e w' ⟨⟨b, rfl⟩, hs', hG'⟩
  replace hs := hs'
  replace hG := grownBy_trans hG hG'
  clear hs' hG'
  go_wp2_with (go_at_call 70; refine (pickL [0, 1, 1] 3 rfl (by omega) (by omega) B bs v _ hs _ _ rfl).mono ?_; rintro e w' ⟨⟨q, rfl, hq⟩, hs', hG'⟩; replace hs := hs'; replace hG := grownBy_trans hG hG')
  refine (near1_any (p - 1) (by omega) (by omega) B bs v _ hs).mono ?_
  rintro e w' ⟨⟨c, rfl⟩, hs', hG'⟩
  replace hs := hs'
  replace hG := grownBy_trans hG hG'
  clear hs' hG'
  go_wp2_with fail
  refine (badField_any p B bs v _ hs).mono ?_
  rintro e w' ⟨⟨uf, rfl⟩, hs', hG'⟩
  replace hs := hs'
  replace hG := grownBy_trans hG hG'
  clear hs' hG'
  go_wp2_with fail
  try simp only [Exit.inBlock, Exit.then]
  first | go_ret | go_ret2 | go_returns
  exact ⟨⟨_, _, _, _, rfl⟩, by have hBf := below_grown (Below.refl bs w) hG (by omega) (by omega); first | exact hBf | (rw [hbs]; exact hBf) | go_grown⟩
end Go.Proofs.YtbjcbbnfgfmllaaGreat
