/- Contracts: draws of layer 2 behind l02Flag. -/
import Derived.Test.YtbjcbbnfgfmllaaDr7
set_option linter.unusedVariables false
set_option linter.unusedSimpArgs false
set_option maxHeartbeats 1000000
set_option maxRecDepth 100000
namespace Go.Proofs.Ytbjcbbnfgfmllaa
open Go.RowKit
theorem drawPerpendicularThrough_any (v : Value) (w : World) (hv : Bytes w w.heap.size v) :
    Calls Try.prog 46 #[v] w fun e w' => (∃ o0 o1 o2a o2b o2c o3x o3y : Int, e = .returned (.tuple #[.int .i64 o0, .int .i64 o1, .agg #[.int .i64 o2a, .int .i64 o2b, .int .i64 o2c], .agg #[.int .i64 o3x, .int .i64 o3y]])) ∧ Below w.heap.size w w' := by
  obtain ⟨B, hBw⟩ : ∃ B, B = w.heap.size := ⟨_, rfl⟩
  have hv0 : Bytes w B v := by rw [hBw]; exact hv
  clear hv
  go_enter Try.func46, Try.ntmps46
  go_wp2_with fail
  generalize hW : (World.alloc (World.alloc w (.cells #[.int .i64 0, .int .i64 0, .int .i64 0] 25)) (.cells #[.int .i64 0, .int .i64 0] 33)) = W
  have dr00 : W.cell? ⟨w.heap.size, 0, none⟩ = some (.int .i64 0) := by subst hW; go_simp
  have gr00 : W.frozen? ⟨w.heap.size, 0, none⟩ = false := by subst hW; go_simp
  have dr01 : W.cell? ⟨w.heap.size, 1, none⟩ = some (.int .i64 0) := by subst hW; go_simp
  have gr01 : W.frozen? ⟨w.heap.size, 1, none⟩ = false := by subst hW; go_simp
  have dr02 : W.cell? ⟨w.heap.size, 2, none⟩ = some (.int .i64 0) := by subst hW; go_simp
  have gr02 : W.frozen? ⟨w.heap.size, 2, none⟩ = false := by subst hW; go_simp
  have dr10 : W.cell? ⟨w.heap.size + 1, 0, none⟩ = some (.int .i64 0) := by subst hW; go_simp
  have gr10 : W.frozen? ⟨w.heap.size + 1, 0, none⟩ = false := by subst hW; go_simp
  have dr11 : W.cell? ⟨w.heap.size + 1, 1, none⟩ = some (.int .i64 0) := by subst hW; go_simp
  have gr11 : W.frozen? ⟨w.heap.size + 1, 1, none⟩ = false := by subst hW; go_simp
  have hv1 : Bytes W B v := by subst hW; exact ((hv0).alloc _).alloc _
  have hB : Below w.heap.size w W := by subst hW; go_grown
  have hbs : w.heap.size + 2 ≤ W.heap.size := by subst hW; simp
  clear hW hv0
  refine (flag_any v _ (hv1.raise (by omega))).mono ?_
  rintro e w1 ⟨⟨p, k, ax, ay, la, lb, lc, rfl⟩, hbn⟩
  replace gr00 := keepF hbn dr00 gr00
  replace gr01 := keepF hbn dr01 gr01
  replace gr02 := keepF hbn dr02 gr02
  replace gr10 := keepF hbn dr10 gr10
  replace gr11 := keepF hbn dr11 gr11
  replace dr00 := keepC hbn dr00
  replace dr01 := keepC hbn dr01
  replace dr02 := keepC hbn dr02
  replace dr10 := keepC hbn dr10
  replace dr11 := keepC hbn dr11
  have hsz0 := hbn.size
  replace hB := below_of hB hbn hB.size
  clear hbn hv1
  go_wp2_with fail
  generalize hW : (World.alloc (World.alloc w1 (.cells #[.int .i64 ax, .int .i64 ay] 33)) (.cells #[.int .i64 la, .int .i64 lb, .int .i64 lc] 25)) = W3
  have db000 : W3.cell? ⟨w1.heap.size, 0, none⟩ = some (.int .i64 ax) := by subst hW; go_simp
  have db001 : W3.cell? ⟨w1.heap.size, 1, none⟩ = some (.int .i64 ay) := by subst hW; go_simp
  have db010 : W3.cell? ⟨w1.heap.size + 1, 0, none⟩ = some (.int .i64 la) := by subst hW; go_simp
  have db011 : W3.cell? ⟨w1.heap.size + 1, 1, none⟩ = some (.int .i64 lb) := by subst hW; go_simp
  have db012 : W3.cell? ⟨w1.heap.size + 1, 2, none⟩ = some (.int .i64 lc) := by subst hW; go_simp
  have hbn : Below w1.heap.size w1 W3 := by subst hW; go_grown
  replace gr00 := keepF hbn dr00 gr00
  replace gr01 := keepF hbn dr01 gr01
  replace gr02 := keepF hbn dr02 gr02
  replace gr10 := keepF hbn dr10 gr10
  replace gr11 := keepF hbn dr11 gr11
  replace dr00 := keepC hbn dr00
  replace dr01 := keepC hbn dr01
  replace dr02 := keepC hbn dr02
  replace dr10 := keepC hbn dr10
  replace dr11 := keepC hbn dr11
  have hle0 := hB.size
  replace hB := below_of hB hbn hB.size
  clear hW hbn
  generalize w1.heap.size = r_0 at *
  clear w1
  have h_r0 : Res3 _ (w.heap.size) := ⟨World.block_lt_of_cell? _ _ dr00, ⟨_, dr00⟩, ⟨_, dr01⟩, ⟨_, dr02⟩, fun j hj => by match j, hj with | 0, _ => exact gr00 | 1, _ => exact gr01 | 2, _ => exact gr02⟩
  have h_r1 : Res2 _ (w.heap.size + 1) := ⟨World.block_lt_of_cell? _ _ dr10, ⟨_, dr10⟩, ⟨_, dr11⟩, fun j hj => by match j, hj with | 0, _ => exact gr10 | 1, _ => exact gr11⟩
  clear dr00 gr00 dr01 gr01 dr02 gr02 dr10 gr10 dr11 gr11
  refine Reg.wp_region_steps7 (by kernel_rfl) 8 (by kernel_rfl) (fun wq => Hid (Below w.heap.size w wq ∧ wq.cell? ⟨r_0, 0, none⟩ = some (.int .i64 ax) ∧ wq.cell? ⟨r_0, 1, none⟩ = some (.int .i64 ay) ∧ wq.cell? ⟨r_0 + 1, 0, none⟩ = some (.int .i64 la) ∧ wq.cell? ⟨r_0 + 1, 1, none⟩ = some (.int .i64 lb) ∧ wq.cell? ⟨r_0 + 1, 2, none⟩ = some (.int .i64 lc) ∧ Res3 wq (w.heap.size) ∧ Res2 wq (w.heap.size + 1))) [(fun v => v = .int .i64 p), (fun v => v = .int .i64 k), (fun v => v = .agg #[.int .i64 la, .int .i64 lb, .int .i64 lc]), (fun v => v = .agg #[.int .i64 ax, .int .i64 ay]), (fun v => v = .int .i64 p), (fun v => v = .int .i64 k), Reg.anyV, Reg.anyV] (Reg.inh_cons ⟨_, rfl⟩ (Reg.inh_cons ⟨_, rfl⟩ (Reg.inh_cons ⟨_, rfl⟩ (Reg.inh_cons ⟨_, rfl⟩ (Reg.inh_cons ⟨_, rfl⟩ (Reg.inh_cons ⟨_, rfl⟩ (Reg.inh_cons ⟨undef, trivial⟩ (Reg.inh_cons ⟨undef, trivial⟩ (Reg.inh_nil))))))))) ?_ ?_
  · exact hid ⟨hB.drew, keepC (Below.refl _ _).drew db000, keepC (Below.refl _ _).drew db001, keepC (Below.refl _ _).drew db010, keepC (Below.refl _ _).drew db011, keepC (Below.refl _ _).drew db012, h_r0.keep (Below.refl _ _).drew, h_r1.keep (Below.refl _ _).drew⟩
  clear hB db000 db001 db010 db011 db012 h_r0 h_r1
  simp only [List.take_succ_cons, List.take_zero, List.drop_succ_cons, List.drop_zero]
  refine Reg.wpS7_val (fun wq hq => ?gs1x0) ?ks1x0
  case gs1x0 => (obtain ⟨hB, db000, db001, db010, db011, db012, h_r0, h_r1⟩ := hq.out; go_simp; first | done | (with_reducible rfl) | rfl)
  try simp only [Act.put, List.setIfInBounds_toArray, List.set_cons_zero, List.set_cons_succ]
  refine Reg.wpS7_val (fun wq hq => ?gs1x1) ?ks1x1
  case gs1x1 => (obtain ⟨hB, db000, db001, db010, db011, db012, h_r0, h_r1⟩ := hq.out; go_simp; first | done | (with_reducible rfl) | rfl)
  try simp only [Act.put, List.setIfInBounds_toArray, List.set_cons_zero, List.set_cons_succ]
  refine Reg.wpS7_val (fun wq hq => ?gs1x2) ?ks1x2
  case gs1x2 => (obtain ⟨hB, db000, db001, db010, db011, db012, h_r0, h_r1⟩ := hq.out; go_simp; first | done | (with_reducible rfl) | rfl)
  try simp only [Act.put, List.setIfInBounds_toArray, List.set_cons_zero, List.set_cons_succ]
  refine Reg.wpS7_val (fun wq hq => ?gs1x3) ?ks1x3
  case gs1x3 => (obtain ⟨hB, db000, db001, db010, db011, db012, h_r0, h_r1⟩ := hq.out; go_simp; first | done | (with_reducible rfl) | rfl)
  try simp only [Act.put, List.setIfInBounds_toArray, List.set_cons_zero, List.set_cons_succ]
  refine Reg.wpS7_val (fun wq hq => ?gs1x4) ?ks1x4
  case gs1x4 => (obtain ⟨hB, db000, db001, db010, db011, db012, h_r0, h_r1⟩ := hq.out; go_simp; first | done | (with_reducible rfl) | rfl)
  try simp only [Act.put, List.setIfInBounds_toArray, List.set_cons_zero, List.set_cons_succ]
  refine Reg.wpS7_val (fun wq hq => ?gs1x5) ?ks1x5
  case gs1x5 => (obtain ⟨hB, db000, db001, db010, db011, db012, h_r0, h_r1⟩ := hq.out; go_simp; first | done | (with_reducible rfl) | rfl)
  try simp only [Act.put, List.setIfInBounds_toArray, List.set_cons_zero, List.set_cons_succ]
  refine Reg.wpS7_skip rfl (fun wq hq => ?gs1x6) ?ks1x6
  case gs1x6 =>
    obtain ⟨hB, db000, db001, db010, db011, db012, h_r0, h_r1⟩ := hq.out
    have hres := h_r0
    obtain ⟨_, ⟨x0, cc0⟩, ⟨x1, cc1⟩, ⟨x2, cc2⟩, hz⟩ := h_r0
    have ff0 := hz 0 (by omega)
    have ff1 := hz 1 (by omega)
    have ff2 := hz 2 (by omega)
    exact ⟨put3 wq (w.heap.size) (la) (lb) (lc), by unfold put3; go_simp, hid ⟨below_put3 hB (by omega) _ _ _, cellP (put3_heap _ _ _ _ _) db000 (by dsimp only <;> omega), cellP (put3_heap _ _ _ _ _) db001 (by dsimp only <;> omega), cellP (put3_heap _ _ _ _ _) db010 (by dsimp only <;> omega), cellP (put3_heap _ _ _ _ _) db011 (by dsimp only <;> omega), cellP (put3_heap _ _ _ _ _) db012 (by dsimp only <;> omega), hres.put _ _ _, h_r1.heap (by rw [put3_size]; exact Nat.le_refl _) (put3_heap _ _ _ _ _ _ (by omega))⟩⟩
  try simp only [Act.put, List.setIfInBounds_toArray, List.set_cons_zero, List.set_cons_succ]
  refine Reg.wpS7_skip rfl (fun wq hq => ?gs1x7) ?ks1x7
  case gs1x7 =>
    obtain ⟨hB, db000, db001, db010, db011, db012, h_r0, h_r1⟩ := hq.out
    have hres := h_r1
    obtain ⟨_, ⟨x0, cc0⟩, ⟨x1, cc1⟩, hz⟩ := h_r1
    have ff0 := hz 0 (by omega)
    have ff1 := hz 1 (by omega)
    exact ⟨put2 wq (w.heap.size + 1) (ax) (ay), by unfold put2; go_simp, hid ⟨below_put2 hB (by omega) _ _, cellP (put2_heap _ _ _ _) db000 (by dsimp only <;> omega), cellP (put2_heap _ _ _ _) db001 (by dsimp only <;> omega), cellP (put2_heap _ _ _ _) db010 (by dsimp only <;> omega), cellP (put2_heap _ _ _ _) db011 (by dsimp only <;> omega), cellP (put2_heap _ _ _ _) db012 (by dsimp only <;> omega), h_r0.heap (by rw [put2_size]; exact Nat.le_refl _) (put2_heap _ _ _ _ _ (by omega)), hres.put _ _⟩⟩
  try simp only [Act.put, List.setIfInBounds_toArray, List.set_cons_zero, List.set_cons_succ]
  intro w2 hq
  obtain ⟨hB, db000, db001, db010, db011, db012, h_r0, h_r1⟩ := hq.out
  clear hq
  change wpList _ _ _ _ _ _
  obtain ⟨_, ⟨x00, cr00⟩, ⟨x01, cr01⟩, ⟨x02, cr02⟩, _⟩ := h_r0
  obtain ⟨_, ⟨x10, cr10⟩, ⟨x11, cr11⟩, _⟩ := h_r1
  go_wp2_with fail
  try simp only [Exit.inBlock, Exit.then]
  refine bodyPost_ret (by simp [results, Try.results46, go_sem, cr00, cr01, cr02, cr10, cr11]; try rfl) rfl ?_
  exact ⟨⟨_, _, _, _, _, _, _, rfl⟩, by first | exact hB | go_grown⟩
theorem drawIsNullLine_any (v : Value) (w : World) (hv : Bytes w w.heap.size v) :
    Calls Try.prog 51 #[v] w fun e w' => (∃ o0 o1 o2a o2b o2c : Int, e = .returned (.tuple #[.int .i64 o0, .int .i64 o1, .agg #[.int .i64 o2a, .int .i64 o2b, .int .i64 o2c]])) ∧ Below w.heap.size w w' := by
  obtain ⟨B, hBw⟩ : ∃ B, B = w.heap.size := ⟨_, rfl⟩
  have hv0 : Bytes w B v := by rw [hBw]; exact hv
  clear hv
  go_enter Try.func51, Try.ntmps51
  go_wp2_with fail
  generalize hW : (World.alloc w (.cells #[.int .i64 0, .int .i64 0, .int .i64 0] 25)) = W
  have dr00 : W.cell? ⟨w.heap.size, 0, none⟩ = some (.int .i64 0) := by subst hW; go_simp
  have gr00 : W.frozen? ⟨w.heap.size, 0, none⟩ = false := by subst hW; go_simp
  have dr01 : W.cell? ⟨w.heap.size, 1, none⟩ = some (.int .i64 0) := by subst hW; go_simp
  have gr01 : W.frozen? ⟨w.heap.size, 1, none⟩ = false := by subst hW; go_simp
  have dr02 : W.cell? ⟨w.heap.size, 2, none⟩ = some (.int .i64 0) := by subst hW; go_simp
  have gr02 : W.frozen? ⟨w.heap.size, 2, none⟩ = false := by subst hW; go_simp
  have hv1 : Bytes W B v := by subst hW; exact (hv0).alloc _
  have hB : Below w.heap.size w W := by subst hW; go_grown
  have hbs : w.heap.size + 1 ≤ W.heap.size := by subst hW; simp
  clear hW hv0
  refine (flag_any v _ (hv1.raise (by omega))).mono ?_
  rintro e w1 ⟨⟨p, k, ax, ay, la, lb, lc, rfl⟩, hbn⟩
  replace gr00 := keepF hbn dr00 gr00
  replace gr01 := keepF hbn dr01 gr01
  replace gr02 := keepF hbn dr02 gr02
  replace dr00 := keepC hbn dr00
  replace dr01 := keepC hbn dr01
  replace dr02 := keepC hbn dr02
  have hsz0 := hbn.size
  replace hB := below_of hB hbn hB.size
  clear hbn hv1
  go_wp2_with fail
  generalize hW : (World.alloc (World.alloc w1 (.cells #[.int .i64 ax, .int .i64 ay] 33)) (.cells #[.int .i64 la, .int .i64 lb, .int .i64 lc] 25)) = W3
  have db000 : W3.cell? ⟨w1.heap.size, 0, none⟩ = some (.int .i64 ax) := by subst hW; go_simp
  have db001 : W3.cell? ⟨w1.heap.size, 1, none⟩ = some (.int .i64 ay) := by subst hW; go_simp
  have db010 : W3.cell? ⟨w1.heap.size + 1, 0, none⟩ = some (.int .i64 la) := by subst hW; go_simp
  have db011 : W3.cell? ⟨w1.heap.size + 1, 1, none⟩ = some (.int .i64 lb) := by subst hW; go_simp
  have db012 : W3.cell? ⟨w1.heap.size + 1, 2, none⟩ = some (.int .i64 lc) := by subst hW; go_simp
  have hbn : Below w1.heap.size w1 W3 := by subst hW; go_grown
  replace gr00 := keepF hbn dr00 gr00
  replace gr01 := keepF hbn dr01 gr01
  replace gr02 := keepF hbn dr02 gr02
  replace dr00 := keepC hbn dr00
  replace dr01 := keepC hbn dr01
  replace dr02 := keepC hbn dr02
  have hle0 := hB.size
  replace hB := below_of hB hbn hB.size
  clear hW hbn
  generalize w1.heap.size = r_0 at *
  clear w1
  have h_r0 : Res3 _ (w.heap.size) := ⟨World.block_lt_of_cell? _ _ dr00, ⟨_, dr00⟩, ⟨_, dr01⟩, ⟨_, dr02⟩, fun j hj => by match j, hj with | 0, _ => exact gr00 | 1, _ => exact gr01 | 2, _ => exact gr02⟩
  clear dr00 gr00 dr01 gr01 dr02 gr02
  refine Reg.wp_region_steps7 (by kernel_rfl) 6 (by kernel_rfl) (fun wq => Hid (Below w.heap.size w wq ∧ wq.cell? ⟨r_0, 0, none⟩ = some (.int .i64 ax) ∧ wq.cell? ⟨r_0, 1, none⟩ = some (.int .i64 ay) ∧ wq.cell? ⟨r_0 + 1, 0, none⟩ = some (.int .i64 la) ∧ wq.cell? ⟨r_0 + 1, 1, none⟩ = some (.int .i64 lb) ∧ wq.cell? ⟨r_0 + 1, 2, none⟩ = some (.int .i64 lc) ∧ Res3 wq (w.heap.size))) [(fun v => v = .int .i64 p), (fun v => v = .int .i64 k), (fun v => v = .agg #[.int .i64 la, .int .i64 lb, .int .i64 lc]), (fun v => v = .int .i64 p), (fun v => v = .int .i64 k), Reg.anyV] (Reg.inh_cons ⟨_, rfl⟩ (Reg.inh_cons ⟨_, rfl⟩ (Reg.inh_cons ⟨_, rfl⟩ (Reg.inh_cons ⟨_, rfl⟩ (Reg.inh_cons ⟨_, rfl⟩ (Reg.inh_cons ⟨undef, trivial⟩ (Reg.inh_nil))))))) ?_ ?_
  · exact hid ⟨hB.drew, keepC (Below.refl _ _).drew db000, keepC (Below.refl _ _).drew db001, keepC (Below.refl _ _).drew db010, keepC (Below.refl _ _).drew db011, keepC (Below.refl _ _).drew db012, h_r0.keep (Below.refl _ _).drew⟩
  clear hB db000 db001 db010 db011 db012 h_r0
  simp only [List.take_succ_cons, List.take_zero, List.drop_succ_cons, List.drop_zero]
  refine Reg.wpS7_val (fun wq hq => ?gs2x0) ?ks2x0
  case gs2x0 => (obtain ⟨hB, db000, db001, db010, db011, db012, h_r0⟩ := hq.out; go_simp; first | done | (with_reducible rfl) | rfl)
  try simp only [Act.put, List.setIfInBounds_toArray, List.set_cons_zero, List.set_cons_succ]
  refine Reg.wpS7_val (fun wq hq => ?gs2x1) ?ks2x1
  case gs2x1 => (obtain ⟨hB, db000, db001, db010, db011, db012, h_r0⟩ := hq.out; go_simp; first | done | (with_reducible rfl) | rfl)
  try simp only [Act.put, List.setIfInBounds_toArray, List.set_cons_zero, List.set_cons_succ]
  refine Reg.wpS7_val (fun wq hq => ?gs2x2) ?ks2x2
  case gs2x2 => (obtain ⟨hB, db000, db001, db010, db011, db012, h_r0⟩ := hq.out; go_simp; first | done | (with_reducible rfl) | rfl)
  try simp only [Act.put, List.setIfInBounds_toArray, List.set_cons_zero, List.set_cons_succ]
  refine Reg.wpS7_val (fun wq hq => ?gs2x3) ?ks2x3
  case gs2x3 => (obtain ⟨hB, db000, db001, db010, db011, db012, h_r0⟩ := hq.out; go_simp; first | done | (with_reducible rfl) | rfl)
  try simp only [Act.put, List.setIfInBounds_toArray, List.set_cons_zero, List.set_cons_succ]
  refine Reg.wpS7_val (fun wq hq => ?gs2x4) ?ks2x4
  case gs2x4 => (obtain ⟨hB, db000, db001, db010, db011, db012, h_r0⟩ := hq.out; go_simp; first | done | (with_reducible rfl) | rfl)
  try simp only [Act.put, List.setIfInBounds_toArray, List.set_cons_zero, List.set_cons_succ]
  refine Reg.wpS7_skip rfl (fun wq hq => ?gs2x5) ?ks2x5
  case gs2x5 =>
    obtain ⟨hB, db000, db001, db010, db011, db012, h_r0⟩ := hq.out
    have hres := h_r0
    obtain ⟨_, ⟨x0, cc0⟩, ⟨x1, cc1⟩, ⟨x2, cc2⟩, hz⟩ := h_r0
    have ff0 := hz 0 (by omega)
    have ff1 := hz 1 (by omega)
    have ff2 := hz 2 (by omega)
    exact ⟨put3 wq (w.heap.size) (la) (lb) (lc), by unfold put3; go_simp, hid ⟨below_put3 hB (by omega) _ _ _, cellP (put3_heap _ _ _ _ _) db000 (by dsimp only <;> omega), cellP (put3_heap _ _ _ _ _) db001 (by dsimp only <;> omega), cellP (put3_heap _ _ _ _ _) db010 (by dsimp only <;> omega), cellP (put3_heap _ _ _ _ _) db011 (by dsimp only <;> omega), cellP (put3_heap _ _ _ _ _) db012 (by dsimp only <;> omega), hres.put _ _ _⟩⟩
  try simp only [Act.put, List.setIfInBounds_toArray, List.set_cons_zero, List.set_cons_succ]
  intro w2 hq
  obtain ⟨hB, db000, db001, db010, db011, db012, h_r0⟩ := hq.out
  clear hq
  change wpList _ _ _ _ _ _
  obtain ⟨_, ⟨x00, cr00⟩, ⟨x01, cr01⟩, ⟨x02, cr02⟩, _⟩ := h_r0
  go_wp2_with fail
  try simp only [Exit.inBlock, Exit.then]
  refine bodyPost_ret (by simp [results, Try.results51, go_sem, cr00, cr01, cr02]; try rfl) rfl ?_
  exact ⟨⟨_, _, _, _, _, rfl⟩, by first | exact hB | go_grown⟩
theorem drawFootOf_any (v : Value) (w : World) (hv : Bytes w w.heap.size v) :
    Calls Try.prog 58 #[v] w fun e w' => (∃ o0 o1 o2x o2y o3a o3b o3c : Int, e = .returned (.tuple #[.int .i64 o0, .int .i64 o1, .agg #[.int .i64 o2x, .int .i64 o2y], .agg #[.int .i64 o3a, .int .i64 o3b, .int .i64 o3c]])) ∧ Below w.heap.size w w' := by
  obtain ⟨B, hBw⟩ : ∃ B, B = w.heap.size := ⟨_, rfl⟩
  have hv0 : Bytes w B v := by rw [hBw]; exact hv
  clear hv
  go_enter Try.func58, Try.ntmps58
  go_wp2_with fail
  generalize hW : (World.alloc (World.alloc w (.cells #[.int .i64 0, .int .i64 0] 33)) (.cells #[.int .i64 0, .int .i64 0, .int .i64 0] 25)) = W
  have dr00 : W.cell? ⟨w.heap.size, 0, none⟩ = some (.int .i64 0) := by subst hW; go_simp
  have gr00 : W.frozen? ⟨w.heap.size, 0, none⟩ = false := by subst hW; go_simp
  have dr01 : W.cell? ⟨w.heap.size, 1, none⟩ = some (.int .i64 0) := by subst hW; go_simp
  have gr01 : W.frozen? ⟨w.heap.size, 1, none⟩ = false := by subst hW; go_simp
  have dr10 : W.cell? ⟨w.heap.size + 1, 0, none⟩ = some (.int .i64 0) := by subst hW; go_simp
  have gr10 : W.frozen? ⟨w.heap.size + 1, 0, none⟩ = false := by subst hW; go_simp
  have dr11 : W.cell? ⟨w.heap.size + 1, 1, none⟩ = some (.int .i64 0) := by subst hW; go_simp
  have gr11 : W.frozen? ⟨w.heap.size + 1, 1, none⟩ = false := by subst hW; go_simp
  have dr12 : W.cell? ⟨w.heap.size + 1, 2, none⟩ = some (.int .i64 0) := by subst hW; go_simp
  have gr12 : W.frozen? ⟨w.heap.size + 1, 2, none⟩ = false := by subst hW; go_simp
  have hv1 : Bytes W B v := by subst hW; exact ((hv0).alloc _).alloc _
  have hB : Below w.heap.size w W := by subst hW; go_grown
  have hbs : w.heap.size + 2 ≤ W.heap.size := by subst hW; simp
  clear hW hv0
  refine (flag_any v _ (hv1.raise (by omega))).mono ?_
  rintro e w1 ⟨⟨p, k, ax, ay, la, lb, lc, rfl⟩, hbn⟩
  replace gr00 := keepF hbn dr00 gr00
  replace gr01 := keepF hbn dr01 gr01
  replace gr10 := keepF hbn dr10 gr10
  replace gr11 := keepF hbn dr11 gr11
  replace gr12 := keepF hbn dr12 gr12
  replace dr00 := keepC hbn dr00
  replace dr01 := keepC hbn dr01
  replace dr10 := keepC hbn dr10
  replace dr11 := keepC hbn dr11
  replace dr12 := keepC hbn dr12
  have hsz0 := hbn.size
  replace hB := below_of hB hbn hB.size
  clear hbn hv1
  go_wp2_with fail
  try simp only [Exit.inBlock, Exit.then]
  refine bodyPost_ret (by simp [results, Try.results58, go_sem, dr00, gr00, dr01, gr01, dr10, gr10, dr11, gr11, dr12, gr12]; try rfl) rfl ?_
  exact ⟨⟨_, _, _, _, _, _, _, rfl⟩, by first | exact hB | (have := hB.size; go_grown)⟩
theorem drawArePerpendicular_any (v : Value) (w : World) (hv : Bytes w w.heap.size v) :
    Calls Try.prog 49 #[v] w fun e w' => (∃ o0 o1 o2a o2b o2c o3a o3b o3c : Int, e = .returned (.tuple #[.int .i64 o0, .int .i64 o1, .agg #[.int .i64 o2a, .int .i64 o2b, .int .i64 o2c], .agg #[.int .i64 o3a, .int .i64 o3b, .int .i64 o3c]])) ∧ Below w.heap.size w w' := by
  obtain ⟨B, hBw⟩ : ∃ B, B = w.heap.size := ⟨_, rfl⟩
  have hv0 : Bytes w B v := by rw [hBw]; exact hv
  clear hv
  go_enter Try.func49, Try.ntmps49
  go_wp2_with fail
  generalize hW : (World.alloc (World.alloc w (.cells #[.int .i64 0, .int .i64 0, .int .i64 0] 25)) (.cells #[.int .i64 0, .int .i64 0, .int .i64 0] 25)) = W
  have dr00 : W.cell? ⟨w.heap.size, 0, none⟩ = some (.int .i64 0) := by subst hW; go_simp
  have gr00 : W.frozen? ⟨w.heap.size, 0, none⟩ = false := by subst hW; go_simp
  have dr01 : W.cell? ⟨w.heap.size, 1, none⟩ = some (.int .i64 0) := by subst hW; go_simp
  have gr01 : W.frozen? ⟨w.heap.size, 1, none⟩ = false := by subst hW; go_simp
  have dr02 : W.cell? ⟨w.heap.size, 2, none⟩ = some (.int .i64 0) := by subst hW; go_simp
  have gr02 : W.frozen? ⟨w.heap.size, 2, none⟩ = false := by subst hW; go_simp
  have dr10 : W.cell? ⟨w.heap.size + 1, 0, none⟩ = some (.int .i64 0) := by subst hW; go_simp
  have gr10 : W.frozen? ⟨w.heap.size + 1, 0, none⟩ = false := by subst hW; go_simp
  have dr11 : W.cell? ⟨w.heap.size + 1, 1, none⟩ = some (.int .i64 0) := by subst hW; go_simp
  have gr11 : W.frozen? ⟨w.heap.size + 1, 1, none⟩ = false := by subst hW; go_simp
  have dr12 : W.cell? ⟨w.heap.size + 1, 2, none⟩ = some (.int .i64 0) := by subst hW; go_simp
  have gr12 : W.frozen? ⟨w.heap.size + 1, 2, none⟩ = false := by subst hW; go_simp
  have hv1 : Bytes W B v := by subst hW; exact ((hv0).alloc _).alloc _
  have hB : Below w.heap.size w W := by subst hW; go_grown
  have hbs : w.heap.size + 2 ≤ W.heap.size := by subst hW; simp
  clear hW hv0
  refine (from_any v B W hv1 (by omega)).mono ?_
  rintro e w1 ⟨rfl, hs, hbn⟩
  replace gr00 := keepF hbn dr00 gr00
  replace gr01 := keepF hbn dr01 gr01
  replace gr02 := keepF hbn dr02 gr02
  replace gr10 := keepF hbn dr10 gr10
  replace gr11 := keepF hbn dr11 gr11
  replace gr12 := keepF hbn dr12 gr12
  replace dr00 := keepC hbn dr00
  replace dr01 := keepC hbn dr01
  replace dr02 := keepC hbn dr02
  replace dr10 := keepC hbn dr10
  replace dr11 := keepC hbn dr11
  replace dr12 := keepC hbn dr12
  have hG : w.grownBy w1 (some W.heap.size) := grown_below (below_of hB hbn hB.size)
  clear hB hbn hv1
  generalize W.heap.size = bs at *
  clear W
  have hlow := hs.low
  go_wp2_with fail
  refine (flag_any v _ (hs.bytes.raise (by have := hs.lt; omega))).mono ?_
  rintro e w' ⟨⟨p, k, ax, ay, la, lb, lc, rfl⟩, hbn⟩
  replace gr00 := keepF hbn dr00 gr00
  replace gr01 := keepF hbn dr01 gr01
  replace gr02 := keepF hbn dr02 gr02
  replace gr10 := keepF hbn dr10 gr10
  replace gr11 := keepF hbn dr11 gr11
  replace gr12 := keepF hbn dr12 gr12
  replace dr00 := keepC hbn dr00
  replace dr01 := keepC hbn dr01
  replace dr02 := keepC hbn dr02
  replace dr10 := keepC hbn dr10
  replace dr11 := keepC hbn dr11
  replace dr12 := keepC hbn dr12
  replace hs := hs.keep hbn
  replace hG := grownBy_trans hG (grown_below hbn)
  clear hbn
  go_wp2_with fail
  generalize hW : (World.alloc (World.alloc w' (.cells #[.int .i64 ax, .int .i64 ay] 33)) (.cells #[.int .i64 la, .int .i64 lb, .int .i64 lc] 25)) = W3
  have db000 : W3.cell? ⟨w'.heap.size, 0, none⟩ = some (.int .i64 ax) := by subst hW; go_simp
  have db001 : W3.cell? ⟨w'.heap.size, 1, none⟩ = some (.int .i64 ay) := by subst hW; go_simp
  have db010 : W3.cell? ⟨w'.heap.size + 1, 0, none⟩ = some (.int .i64 la) := by subst hW; go_simp
  have db011 : W3.cell? ⟨w'.heap.size + 1, 1, none⟩ = some (.int .i64 lb) := by subst hW; go_simp
  have db012 : W3.cell? ⟨w'.heap.size + 1, 2, none⟩ = some (.int .i64 lc) := by subst hW; go_simp
  have hbn : Below w'.heap.size w' W3 := by subst hW; go_grown
  replace gr00 := keepF hbn dr00 gr00
  replace gr01 := keepF hbn dr01 gr01
  replace gr02 := keepF hbn dr02 gr02
  replace gr10 := keepF hbn dr10 gr10
  replace gr11 := keepF hbn dr11 gr11
  replace gr12 := keepF hbn dr12 gr12
  replace dr00 := keepC hbn dr00
  replace dr01 := keepC hbn dr01
  replace dr02 := keepC hbn dr02
  replace dr10 := keepC hbn dr10
  replace dr11 := keepC hbn dr11
  replace dr12 := keepC hbn dr12
  have hlt0 := hs.lt
  replace hs := hs.keep hbn
  replace hG := grownBy_trans hG (grown_below hbn)
  clear hW hbn
  generalize w'.heap.size = r_0 at *
  clear w'
  obtain ⟨ta, tb, tc, tq, hT⟩ : ∃ a b c q, Hid (Pl.perpTOf p k la lb lc ax ay = ((a, b, c), q)) := ⟨_, _, _, _, rfl⟩
  refine (sPerpendicularThrough_any p k la lb lc ax ay _).mono ?_
  rintro e w' ⟨he, hbn⟩
  rw [hT.out] at he
  dsimp only at he
  subst he
  replace gr00 := keepF hbn dr00 gr00
  replace gr01 := keepF hbn dr01 gr01
  replace gr02 := keepF hbn dr02 gr02
  replace gr10 := keepF hbn dr10 gr10
  replace gr11 := keepF hbn dr11 gr11
  replace gr12 := keepF hbn dr12 gr12
  replace dr00 := keepC hbn dr00
  replace dr01 := keepC hbn dr01
  replace dr02 := keepC hbn dr02
  replace dr10 := keepC hbn dr10
  replace dr11 := keepC hbn dr11
  replace dr12 := keepC hbn dr12
  replace db000 := keepC hbn db000
  replace db001 := keepC hbn db001
  replace db010 := keepC hbn db010
  replace db011 := keepC hbn db011
  replace db012 := keepC hbn db012
  replace hs := hs.keep hbn
  replace hG := grownBy_trans hG (grown_below hbn)
  clear hbn hT
  by_cases hz0 : tq = 0
  · subst hz0
    go_wp2_with fail
    generalize hW : (World.alloc w' (.cells #[.int .i64 ta, .int .i64 tb, .int .i64 tc] 25)) = W4
    have db100 : W4.cell? ⟨w'.heap.size, 0, none⟩ = some (.int .i64 ta) := by subst hW; go_simp
    have db101 : W4.cell? ⟨w'.heap.size, 1, none⟩ = some (.int .i64 tb) := by subst hW; go_simp
    have db102 : W4.cell? ⟨w'.heap.size, 2, none⟩ = some (.int .i64 tc) := by subst hW; go_simp
    have hbn : Below w'.heap.size w' W4 := by subst hW; go_grown
    replace gr00 := keepF hbn dr00 gr00
    replace gr01 := keepF hbn dr01 gr01
    replace gr02 := keepF hbn dr02 gr02
    replace gr10 := keepF hbn dr10 gr10
    replace gr11 := keepF hbn dr11 gr11
    replace gr12 := keepF hbn dr12 gr12
    replace dr00 := keepC hbn dr00
    replace dr01 := keepC hbn dr01
    replace dr02 := keepC hbn dr02
    replace dr10 := keepC hbn dr10
    replace dr11 := keepC hbn dr11
    replace dr12 := keepC hbn dr12
    replace db000 := keepC hbn db000
    replace db001 := keepC hbn db001
    replace db010 := keepC hbn db010
    replace db011 := keepC hbn db011
    replace db012 := keepC hbn db012
    have hlt1 := hs.lt
    replace hs := hs.keep hbn
    replace hG := grownBy_trans hG (grown_below hbn)
    clear hW hbn
    generalize w'.heap.size = r_1 at *
    clear w'
    go_wp2_with fail
    refine (next_any 2 B bs v _ hs).mono ?_
    rintro e w' ⟨⟨q, rfl, hq0, hq1, _⟩, hs', hG'⟩
    replace gr00 := frozenG hG' dr00 (by dsimp only <;> omega) gr00
    replace gr01 := frozenG hG' dr01 (by dsimp only <;> omega) gr01
    replace gr02 := frozenG hG' dr02 (by dsimp only <;> omega) gr02
    replace gr10 := frozenG hG' dr10 (by dsimp only <;> omega) gr10
    replace gr11 := frozenG hG' dr11 (by dsimp only <;> omega) gr11
    replace gr12 := frozenG hG' dr12 (by dsimp only <;> omega) gr12
    replace dr00 := cellG hG' dr00 (by dsimp only <;> omega)
    replace dr01 := cellG hG' dr01 (by dsimp only <;> omega)
    replace dr02 := cellG hG' dr02 (by dsimp only <;> omega)
    replace dr10 := cellG hG' dr10 (by dsimp only <;> omega)
    replace dr11 := cellG hG' dr11 (by dsimp only <;> omega)
    replace dr12 := cellG hG' dr12 (by dsimp only <;> omega)
    replace db000 := cellG hG' db000 (by dsimp only <;> omega)
    replace db001 := cellG hG' db001 (by dsimp only <;> omega)
    replace db010 := cellG hG' db010 (by dsimp only <;> omega)
    replace db011 := cellG hG' db011 (by dsimp only <;> omega)
    replace db012 := cellG hG' db012 (by dsimp only <;> omega)
    replace db100 := cellG hG' db100 (by dsimp only <;> omega)
    replace db101 := cellG hG' db101 (by dsimp only <;> omega)
    replace db102 := cellG hG' db102 (by dsimp only <;> omega)
    replace hs := hs'
    replace hG := grownBy_trans hG hG'
    clear hs' hG'
    have hql := hq1 (by omega)
    clear hq1
    by_cases hz : q = 0
    · subst hz
      go_wp2_with fail
      have h_r0 : Res3 _ (w.heap.size) := ⟨World.block_lt_of_cell? _ _ dr00, ⟨_, dr00⟩, ⟨_, dr01⟩, ⟨_, dr02⟩, fun j hj => by match j, hj with | 0, _ => exact gr00 | 1, _ => exact gr01 | 2, _ => exact gr02⟩
      have h_r1 : Res3 _ (w.heap.size + 1) := ⟨World.block_lt_of_cell? _ _ dr10, ⟨_, dr10⟩, ⟨_, dr11⟩, ⟨_, dr12⟩, fun j hj => by match j, hj with | 0, _ => exact gr10 | 1, _ => exact gr11 | 2, _ => exact gr12⟩
      clear dr00 gr00 dr01 gr01 dr02 gr02 dr10 gr10 dr11 gr11 dr12 gr12
      refine Reg.wp_region_steps7 (by kernel_rfl) 8 (by kernel_rfl) (fun wq => Hid (Src wq B bs v ∧ w.grownBy wq (some bs) ∧ wq.cell? ⟨r_0, 0, none⟩ = some (.int .i64 ax) ∧ wq.cell? ⟨r_0, 1, none⟩ = some (.int .i64 ay) ∧ wq.cell? ⟨r_0 + 1, 0, none⟩ = some (.int .i64 la) ∧ wq.cell? ⟨r_0 + 1, 1, none⟩ = some (.int .i64 lb) ∧ wq.cell? ⟨r_0 + 1, 2, none⟩ = some (.int .i64 lc) ∧ wq.cell? ⟨r_1, 0, none⟩ = some (.int .i64 ta) ∧ wq.cell? ⟨r_1, 1, none⟩ = some (.int .i64 tb) ∧ wq.cell? ⟨r_1, 2, none⟩ = some (.int .i64 tc) ∧ Res3 wq (w.heap.size) ∧ Res3 wq (w.heap.size + 1))) [(fun v => v = .int .i64 p), (fun v => v = .int .i64 k), (fun v => v = .agg #[.int .i64 la, .int .i64 lb, .int .i64 lc]), (fun v => v = .agg #[.int .i64 ta, .int .i64 tb, .int .i64 tc]), (fun v => v = .int .i64 p), (fun v => v = .int .i64 k), Reg.anyV, Reg.anyV] (Reg.inh_cons ⟨_, rfl⟩ (Reg.inh_cons ⟨_, rfl⟩ (Reg.inh_cons ⟨_, rfl⟩ (Reg.inh_cons ⟨_, rfl⟩ (Reg.inh_cons ⟨_, rfl⟩ (Reg.inh_cons ⟨_, rfl⟩ (Reg.inh_cons ⟨undef, trivial⟩ (Reg.inh_cons ⟨undef, trivial⟩ (Reg.inh_nil))))))))) ?_ ?_
      · exact hid ⟨hs.drew, grownBy_drew hG, keepC (Below.refl _ _).drew db000, keepC (Below.refl _ _).drew db001, keepC (Below.refl _ _).drew db010, keepC (Below.refl _ _).drew db011, keepC (Below.refl _ _).drew db012, keepC (Below.refl _ _).drew db100, keepC (Below.refl _ _).drew db101, keepC (Below.refl _ _).drew db102, h_r0.keep (Below.refl _ _).drew, h_r1.keep (Below.refl _ _).drew⟩
      clear hs hG db000 db001 db010 db011 db012 db100 db101 db102 h_r0 h_r1
      simp only [List.take_succ_cons, List.take_zero, List.drop_succ_cons, List.drop_zero]
      refine Reg.wpS7_val (fun wq hq => ?gs3x0) ?ks3x0
      case gs3x0 => (obtain ⟨hs, hG, db000, db001, db010, db011, db012, db100, db101, db102, h_r0, h_r1⟩ := hq.out; go_simp; first | done | (with_reducible rfl) | rfl)
      try simp only [Act.put, List.setIfInBounds_toArray, List.set_cons_zero, List.set_cons_succ]
      refine Reg.wpS7_val (fun wq hq => ?gs3x1) ?ks3x1
      case gs3x1 => (obtain ⟨hs, hG, db000, db001, db010, db011, db012, db100, db101, db102, h_r0, h_r1⟩ := hq.out; go_simp; first | done | (with_reducible rfl) | rfl)
      try simp only [Act.put, List.setIfInBounds_toArray, List.set_cons_zero, List.set_cons_succ]
      refine Reg.wpS7_val (fun wq hq => ?gs3x2) ?ks3x2
      case gs3x2 => (obtain ⟨hs, hG, db000, db001, db010, db011, db012, db100, db101, db102, h_r0, h_r1⟩ := hq.out; go_simp; first | done | (with_reducible rfl) | rfl)
      try simp only [Act.put, List.setIfInBounds_toArray, List.set_cons_zero, List.set_cons_succ]
      refine Reg.wpS7_val (fun wq hq => ?gs3x3) ?ks3x3
      case gs3x3 => (obtain ⟨hs, hG, db000, db001, db010, db011, db012, db100, db101, db102, h_r0, h_r1⟩ := hq.out; go_simp; first | done | (with_reducible rfl) | rfl)
      try simp only [Act.put, List.setIfInBounds_toArray, List.set_cons_zero, List.set_cons_succ]
      refine Reg.wpS7_val (fun wq hq => ?gs3x4) ?ks3x4
      case gs3x4 => (obtain ⟨hs, hG, db000, db001, db010, db011, db012, db100, db101, db102, h_r0, h_r1⟩ := hq.out; go_simp; first | done | (with_reducible rfl) | rfl)
      try simp only [Act.put, List.setIfInBounds_toArray, List.set_cons_zero, List.set_cons_succ]
      refine Reg.wpS7_val (fun wq hq => ?gs3x5) ?ks3x5
      case gs3x5 => (obtain ⟨hs, hG, db000, db001, db010, db011, db012, db100, db101, db102, h_r0, h_r1⟩ := hq.out; go_simp; first | done | (with_reducible rfl) | rfl)
      try simp only [Act.put, List.setIfInBounds_toArray, List.set_cons_zero, List.set_cons_succ]
      refine Reg.wpS7_skip rfl (fun wq hq => ?gs3x6) ?ks3x6
      case gs3x6 =>
        obtain ⟨hs, hG, db000, db001, db010, db011, db012, db100, db101, db102, h_r0, h_r1⟩ := hq.out
        have hres := h_r0
        obtain ⟨_, ⟨x0, cc0⟩, ⟨x1, cc1⟩, ⟨x2, cc2⟩, hz⟩ := h_r0
        have ff0 := hz 0 (by omega)
        have ff1 := hz 1 (by omega)
        have ff2 := hz 2 (by omega)
        exact ⟨put3 wq (w.heap.size) (la) (lb) (lc), by unfold put3; go_simp, hid ⟨hs.put (put3_heap _ _ _ _ _) (put3_size _ _ _ _ _) (by omega) (by omega), grown_put3 hG (by omega) _ _ _, cellP (put3_heap _ _ _ _ _) db000 (by dsimp only <;> omega), cellP (put3_heap _ _ _ _ _) db001 (by dsimp only <;> omega), cellP (put3_heap _ _ _ _ _) db010 (by dsimp only <;> omega), cellP (put3_heap _ _ _ _ _) db011 (by dsimp only <;> omega), cellP (put3_heap _ _ _ _ _) db012 (by dsimp only <;> omega), cellP (put3_heap _ _ _ _ _) db100 (by dsimp only <;> omega), cellP (put3_heap _ _ _ _ _) db101 (by dsimp only <;> omega), cellP (put3_heap _ _ _ _ _) db102 (by dsimp only <;> omega), hres.put _ _ _, h_r1.heap (by rw [put3_size]; exact Nat.le_refl _) (put3_heap _ _ _ _ _ _ (by omega))⟩⟩
      try simp only [Act.put, List.setIfInBounds_toArray, List.set_cons_zero, List.set_cons_succ]
      refine Reg.wpS7_skip rfl (fun wq hq => ?gs3x7) ?ks3x7
      case gs3x7 =>
        obtain ⟨hs, hG, db000, db001, db010, db011, db012, db100, db101, db102, h_r0, h_r1⟩ := hq.out
        have hres := h_r1
        obtain ⟨_, ⟨x0, cc0⟩, ⟨x1, cc1⟩, ⟨x2, cc2⟩, hz⟩ := h_r1
        have ff0 := hz 0 (by omega)
        have ff1 := hz 1 (by omega)
        have ff2 := hz 2 (by omega)
        exact ⟨put3 wq (w.heap.size + 1) (ta) (tb) (tc), by unfold put3; go_simp, hid ⟨hs.put (put3_heap _ _ _ _ _) (put3_size _ _ _ _ _) (by omega) (by omega), grown_put3 hG (by omega) _ _ _, cellP (put3_heap _ _ _ _ _) db000 (by dsimp only <;> omega), cellP (put3_heap _ _ _ _ _) db001 (by dsimp only <;> omega), cellP (put3_heap _ _ _ _ _) db010 (by dsimp only <;> omega), cellP (put3_heap _ _ _ _ _) db011 (by dsimp only <;> omega), cellP (put3_heap _ _ _ _ _) db012 (by dsimp only <;> omega), cellP (put3_heap _ _ _ _ _) db100 (by dsimp only <;> omega), cellP (put3_heap _ _ _ _ _) db101 (by dsimp only <;> omega), cellP (put3_heap _ _ _ _ _) db102 (by dsimp only <;> omega), h_r0.heap (by rw [put3_size]; exact Nat.le_refl _) (put3_heap _ _ _ _ _ _ (by omega)), hres.put _ _ _⟩⟩
      try simp only [Act.put, List.setIfInBounds_toArray, List.set_cons_zero, List.set_cons_succ]
      intro w2 hq
      obtain ⟨hs, hG, db000, db001, db010, db011, db012, db100, db101, db102, h_r0, h_r1⟩ := hq.out
      clear hq
      change wpList _ _ _ _ _ _
      obtain ⟨_, ⟨x00, cr00⟩, ⟨x01, cr01⟩, ⟨x02, cr02⟩, _⟩ := h_r0
      obtain ⟨_, ⟨x10, cr10⟩, ⟨x11, cr11⟩, ⟨x12, cr12⟩, _⟩ := h_r1
      go_wp2_with fail
      try simp only [Exit.inBlock, Exit.then]
      refine bodyPost_ret (by simp [results, Try.results49, go_sem, cr00, cr01, cr02, cr10, cr11, cr12]; try rfl) rfl ?_
      exact ⟨⟨_, _, _, _, _, _, _, _, rfl⟩, by have hBf := below_grown (Below.refl w.heap.size w) hG (by omega) (by omega); first | exact hBf | (rw [hbs]; exact hBf) | go_grown⟩
    · go_wp2_with fail
      go_wp2_with fail
      refine (drawField_any B bs v _ hs).mono ?_
      rintro e w' ⟨⟨u, rfl, hpm⟩, hs', hG'⟩
      replace gr00 := frozenG hG' dr00 (by dsimp only <;> omega) gr00
      replace gr01 := frozenG hG' dr01 (by dsimp only <;> omega) gr01
      replace gr02 := frozenG hG' dr02 (by dsimp only <;> omega) gr02
      replace gr10 := frozenG hG' dr10 (by dsimp only <;> omega) gr10
      replace gr11 := frozenG hG' dr11 (by dsimp only <;> omega) gr11
      replace gr12 := frozenG hG' dr12 (by dsimp only <;> omega) gr12
      replace dr00 := cellG hG' dr00 (by dsimp only <;> omega)
      replace dr01 := cellG hG' dr01 (by dsimp only <;> omega)
      replace dr02 := cellG hG' dr02 (by dsimp only <;> omega)
      replace dr10 := cellG hG' dr10 (by dsimp only <;> omega)
      replace dr11 := cellG hG' dr11 (by dsimp only <;> omega)
      replace dr12 := cellG hG' dr12 (by dsimp only <;> omega)
      replace db000 := cellG hG' db000 (by dsimp only <;> omega)
      replace db001 := cellG hG' db001 (by dsimp only <;> omega)
      replace db010 := cellG hG' db010 (by dsimp only <;> omega)
      replace db011 := cellG hG' db011 (by dsimp only <;> omega)
      replace db012 := cellG hG' db012 (by dsimp only <;> omega)
      replace db100 := cellG hG' db100 (by dsimp only <;> omega)
      replace db101 := cellG hG' db101 (by dsimp only <;> omega)
      replace db102 := cellG hG' db102 (by dsimp only <;> omega)
      replace hs := hs'
      replace hG := grownBy_trans hG hG'
      clear hs' hG'
      have hf := field_of hpm
      have hp := Pl.field_bd hf
      obtain ⟨hp1, hp2⟩ := hp
      clear hpm
      go_wp2_with fail
      have h_r0 : Res3 _ (w.heap.size) := ⟨World.block_lt_of_cell? _ _ dr00, ⟨_, dr00⟩, ⟨_, dr01⟩, ⟨_, dr02⟩, fun j hj => by match j, hj with | 0, _ => exact gr00 | 1, _ => exact gr01 | 2, _ => exact gr02⟩
      have h_r1 : Res3 _ (w.heap.size + 1) := ⟨World.block_lt_of_cell? _ _ dr10, ⟨_, dr10⟩, ⟨_, dr11⟩, ⟨_, dr12⟩, fun j hj => by match j, hj with | 0, _ => exact gr10 | 1, _ => exact gr11 | 2, _ => exact gr12⟩
      clear dr00 gr00 dr01 gr01 dr02 gr02 dr10 gr10 dr11 gr11 dr12 gr12
      refine Reg.wp_region_steps7 (by kernel_rfl) 10 (by kernel_rfl) (fun wq => Hid (Src wq B bs v ∧ w.grownBy wq (some bs) ∧ wq.cell? ⟨r_0, 0, none⟩ = some (.int .i64 ax) ∧ wq.cell? ⟨r_0, 1, none⟩ = some (.int .i64 ay) ∧ wq.cell? ⟨r_0 + 1, 0, none⟩ = some (.int .i64 la) ∧ wq.cell? ⟨r_0 + 1, 1, none⟩ = some (.int .i64 lb) ∧ wq.cell? ⟨r_0 + 1, 2, none⟩ = some (.int .i64 lc) ∧ wq.cell? ⟨r_1, 0, none⟩ = some (.int .i64 ta) ∧ wq.cell? ⟨r_1, 1, none⟩ = some (.int .i64 tb) ∧ wq.cell? ⟨r_1, 2, none⟩ = some (.int .i64 tc) ∧ Res3 wq (w.heap.size) ∧ Res3 wq (w.heap.size + 1))) [(fun v => v = .int .i64 p), (fun v => v = .int .i64 k), (fun v => v = .agg #[.int .i64 la, .int .i64 lb, .int .i64 lc]), (fun v => v = .pointer (some ⟨bs, 0, none⟩)), (fun v => v = .int .i64 u), IsL, (fun v => v = .int .i64 p), (fun v => v = .int .i64 k), Reg.anyV, Reg.anyV] (Reg.inh_cons ⟨_, rfl⟩ (Reg.inh_cons ⟨_, rfl⟩ (Reg.inh_cons ⟨_, rfl⟩ (Reg.inh_cons ⟨_, rfl⟩ (Reg.inh_cons ⟨_, rfl⟩ (Reg.inh_cons ⟨.agg #[.int .i64 0, .int .i64 0, .int .i64 0], _, _, _, rfl⟩ (Reg.inh_cons ⟨_, rfl⟩ (Reg.inh_cons ⟨_, rfl⟩ (Reg.inh_cons ⟨undef, trivial⟩ (Reg.inh_cons ⟨undef, trivial⟩ (Reg.inh_nil))))))))))) ?_ ?_
      · exact hid ⟨hs.drew, grownBy_drew hG, keepC (Below.refl _ _).drew db000, keepC (Below.refl _ _).drew db001, keepC (Below.refl _ _).drew db010, keepC (Below.refl _ _).drew db011, keepC (Below.refl _ _).drew db012, keepC (Below.refl _ _).drew db100, keepC (Below.refl _ _).drew db101, keepC (Below.refl _ _).drew db102, h_r0.keep (Below.refl _ _).drew, h_r1.keep (Below.refl _ _).drew⟩
      clear hs hG db000 db001 db010 db011 db012 db100 db101 db102 h_r0 h_r1
      simp only [List.take_succ_cons, List.take_zero, List.drop_succ_cons, List.drop_zero]
      refine Reg.wpS7_val (fun wq hq => ?gs4x0) ?ks4x0
      case gs4x0 => (obtain ⟨hs, hG, db000, db001, db010, db011, db012, db100, db101, db102, h_r0, h_r1⟩ := hq.out; go_simp; first | done | (with_reducible rfl) | rfl)
      try simp only [Act.put, List.setIfInBounds_toArray, List.set_cons_zero, List.set_cons_succ]
      refine Reg.wpS7_val (fun wq hq => ?gs4x1) ?ks4x1
      case gs4x1 => (obtain ⟨hs, hG, db000, db001, db010, db011, db012, db100, db101, db102, h_r0, h_r1⟩ := hq.out; go_simp; first | done | (with_reducible rfl) | rfl)
      try simp only [Act.put, List.setIfInBounds_toArray, List.set_cons_zero, List.set_cons_succ]
      refine Reg.wpS7_val (fun wq hq => ?gs4x2) ?ks4x2
      case gs4x2 => (obtain ⟨hs, hG, db000, db001, db010, db011, db012, db100, db101, db102, h_r0, h_r1⟩ := hq.out; go_simp; first | done | (with_reducible rfl) | rfl)
      try simp only [Act.put, List.setIfInBounds_toArray, List.set_cons_zero, List.set_cons_succ]
      refine Reg.wpS7_val (fun wq hq => ?gs4x3) ?ks4x3
      case gs4x3 => (obtain ⟨hs, hG, db000, db001, db010, db011, db012, db100, db101, db102, h_r0, h_r1⟩ := hq.out; go_simp; first | done | (with_reducible rfl) | rfl)
      try simp only [Act.put, List.setIfInBounds_toArray, List.set_cons_zero, List.set_cons_succ]
      refine Reg.wpS7_val (fun wq hq => ?gs4x4) ?ks4x4
      case gs4x4 => (obtain ⟨hs, hG, db000, db001, db010, db011, db012, db100, db101, db102, h_r0, h_r1⟩ := hq.out; go_simp; first | done | (with_reducible rfl) | rfl)
      try simp only [Act.put, List.setIfInBounds_toArray, List.set_cons_zero, List.set_cons_succ]
      refine Reg.wpS7_step (fun wq hq => ?gs4x5) ?ks4x5
      case gs4x5 =>
        obtain ⟨hs, hG, db000, db001, db010, db011, db012, db100, db101, db102, h_r0, h_r1⟩ := hq.out
        refine Reg.sAt7_call (f := 128) (args := #[.pointer (some ⟨bs, 0, none⟩), .int .i64 u]) (by go_simp) ?_
        refine (drawLine_any u (by omega) (by omega) B bs v _ hs).mono ?_
        rintro e w' ⟨⟨q0, q1, q2, rfl, _⟩, hs', hG'⟩
        replace h_r0 := h_r0.grown hG' (by omega)
        replace h_r1 := h_r1.grown hG' (by omega)
        replace db000 := cellG hG' db000 (by dsimp only <;> omega)
        replace db001 := cellG hG' db001 (by dsimp only <;> omega)
        replace db010 := cellG hG' db010 (by dsimp only <;> omega)
        replace db011 := cellG hG' db011 (by dsimp only <;> omega)
        replace db012 := cellG hG' db012 (by dsimp only <;> omega)
        replace db100 := cellG hG' db100 (by dsimp only <;> omega)
        replace db101 := cellG hG' db101 (by dsimp only <;> omega)
        replace db102 := cellG hG' db102 (by dsimp only <;> omega)
        replace hs := hs'
        replace hG := grownBy_trans hG hG'
        clear hs' hG'
        exact ⟨_, rfl, ⟨_, _, _, rfl⟩, hid ⟨hs, hG, db000, db001, db010, db011, db012, db100, db101, db102, h_r0, h_r1⟩⟩
      rintro _ ⟨xa, xb, xc, rfl⟩
      try simp only [Act.put, List.setIfInBounds_toArray, List.set_cons_zero, List.set_cons_succ]
      refine Reg.wpS7_val (fun wq hq => ?gs4x6) ?ks4x6
      case gs4x6 => (obtain ⟨hs, hG, db000, db001, db010, db011, db012, db100, db101, db102, h_r0, h_r1⟩ := hq.out; go_simp; first | done | (with_reducible rfl) | rfl)
      try simp only [Act.put, List.setIfInBounds_toArray, List.set_cons_zero, List.set_cons_succ]
      refine Reg.wpS7_val (fun wq hq => ?gs4x7) ?ks4x7
      case gs4x7 => (obtain ⟨hs, hG, db000, db001, db010, db011, db012, db100, db101, db102, h_r0, h_r1⟩ := hq.out; go_simp; first | done | (with_reducible rfl) | rfl)
      try simp only [Act.put, List.setIfInBounds_toArray, List.set_cons_zero, List.set_cons_succ]
      refine Reg.wpS7_skip rfl (fun wq hq => ?gs4x8) ?ks4x8
      case gs4x8 =>
        obtain ⟨hs, hG, db000, db001, db010, db011, db012, db100, db101, db102, h_r0, h_r1⟩ := hq.out
        have hres := h_r0
        obtain ⟨_, ⟨x0, cc0⟩, ⟨x1, cc1⟩, ⟨x2, cc2⟩, hz⟩ := h_r0
        have ff0 := hz 0 (by omega)
        have ff1 := hz 1 (by omega)
        have ff2 := hz 2 (by omega)
        exact ⟨put3 wq (w.heap.size) (la) (lb) (lc), by unfold put3; go_simp, hid ⟨hs.put (put3_heap _ _ _ _ _) (put3_size _ _ _ _ _) (by omega) (by omega), grown_put3 hG (by omega) _ _ _, cellP (put3_heap _ _ _ _ _) db000 (by dsimp only <;> omega), cellP (put3_heap _ _ _ _ _) db001 (by dsimp only <;> omega), cellP (put3_heap _ _ _ _ _) db010 (by dsimp only <;> omega), cellP (put3_heap _ _ _ _ _) db011 (by dsimp only <;> omega), cellP (put3_heap _ _ _ _ _) db012 (by dsimp only <;> omega), cellP (put3_heap _ _ _ _ _) db100 (by dsimp only <;> omega), cellP (put3_heap _ _ _ _ _) db101 (by dsimp only <;> omega), cellP (put3_heap _ _ _ _ _) db102 (by dsimp only <;> omega), hres.put _ _ _, h_r1.heap (by rw [put3_size]; exact Nat.le_refl _) (put3_heap _ _ _ _ _ _ (by omega))⟩⟩
      try simp only [Act.put, List.setIfInBounds_toArray, List.set_cons_zero, List.set_cons_succ]
      refine Reg.wpS7_skip rfl (fun wq hq => ?gs4x9) ?ks4x9
      case gs4x9 =>
        obtain ⟨hs, hG, db000, db001, db010, db011, db012, db100, db101, db102, h_r0, h_r1⟩ := hq.out
        have hres := h_r1
        obtain ⟨_, ⟨x0, cc0⟩, ⟨x1, cc1⟩, ⟨x2, cc2⟩, hz⟩ := h_r1
        have ff0 := hz 0 (by omega)
        have ff1 := hz 1 (by omega)
        have ff2 := hz 2 (by omega)
        exact ⟨put3 wq (w.heap.size + 1) (xa) (xb) (xc), by unfold put3; go_simp, hid ⟨hs.put (put3_heap _ _ _ _ _) (put3_size _ _ _ _ _) (by omega) (by omega), grown_put3 hG (by omega) _ _ _, cellP (put3_heap _ _ _ _ _) db000 (by dsimp only <;> omega), cellP (put3_heap _ _ _ _ _) db001 (by dsimp only <;> omega), cellP (put3_heap _ _ _ _ _) db010 (by dsimp only <;> omega), cellP (put3_heap _ _ _ _ _) db011 (by dsimp only <;> omega), cellP (put3_heap _ _ _ _ _) db012 (by dsimp only <;> omega), cellP (put3_heap _ _ _ _ _) db100 (by dsimp only <;> omega), cellP (put3_heap _ _ _ _ _) db101 (by dsimp only <;> omega), cellP (put3_heap _ _ _ _ _) db102 (by dsimp only <;> omega), h_r0.heap (by rw [put3_size]; exact Nat.le_refl _) (put3_heap _ _ _ _ _ _ (by omega)), hres.put _ _ _⟩⟩
      try simp only [Act.put, List.setIfInBounds_toArray, List.set_cons_zero, List.set_cons_succ]
      intro w2 hq
      obtain ⟨hs, hG, db000, db001, db010, db011, db012, db100, db101, db102, h_r0, h_r1⟩ := hq.out
      clear hq
      change wpList _ _ _ _ _ _
      obtain ⟨_, ⟨x00, cr00⟩, ⟨x01, cr01⟩, ⟨x02, cr02⟩, _⟩ := h_r0
      obtain ⟨_, ⟨x10, cr10⟩, ⟨x11, cr11⟩, ⟨x12, cr12⟩, _⟩ := h_r1
      go_wp2_with fail
      try simp only [Exit.inBlock, Exit.then]
      refine bodyPost_ret (by simp [results, Try.results49, go_sem, cr00, cr01, cr02, cr10, cr11, cr12]; try rfl) rfl ?_
      exact ⟨⟨_, _, _, _, _, _, _, _, rfl⟩, by have hBf := below_grown (Below.refl w.heap.size w) hG (by omega) (by omega); first | exact hBf | (rw [hbs]; exact hBf) | go_grown⟩
  · have hzb : (tq == 0) = false := by simpa using hz0
    go_wp2_with fail
    generalize hW : (World.alloc w' (.cells #[.int .i64 ta, .int .i64 tb, .int .i64 tc] 25)) = W4
    have db100 : W4.cell? ⟨w'.heap.size, 0, none⟩ = some (.int .i64 ta) := by subst hW; go_simp
    have db101 : W4.cell? ⟨w'.heap.size, 1, none⟩ = some (.int .i64 tb) := by subst hW; go_simp
    have db102 : W4.cell? ⟨w'.heap.size, 2, none⟩ = some (.int .i64 tc) := by subst hW; go_simp
    have hbn : Below w'.heap.size w' W4 := by subst hW; go_grown
    replace gr00 := keepF hbn dr00 gr00
    replace gr01 := keepF hbn dr01 gr01
    replace gr02 := keepF hbn dr02 gr02
    replace gr10 := keepF hbn dr10 gr10
    replace gr11 := keepF hbn dr11 gr11
    replace gr12 := keepF hbn dr12 gr12
    replace dr00 := keepC hbn dr00
    replace dr01 := keepC hbn dr01
    replace dr02 := keepC hbn dr02
    replace dr10 := keepC hbn dr10
    replace dr11 := keepC hbn dr11
    replace dr12 := keepC hbn dr12
    replace db000 := keepC hbn db000
    replace db001 := keepC hbn db001
    replace db010 := keepC hbn db010
    replace db011 := keepC hbn db011
    replace db012 := keepC hbn db012
    have hlt1 := hs.lt
    replace hs := hs.keep hbn
    replace hG := grownBy_trans hG (grown_below hbn)
    clear hW hbn
    generalize w'.heap.size = r_1 at *
    clear w'
    go_wp2_with fail
    refine (drawField_any B bs v _ hs).mono ?_
    rintro e w' ⟨⟨u, rfl, hpm⟩, hs', hG'⟩
    replace gr00 := frozenG hG' dr00 (by dsimp only <;> omega) gr00
    replace gr01 := frozenG hG' dr01 (by dsimp only <;> omega) gr01
    replace gr02 := frozenG hG' dr02 (by dsimp only <;> omega) gr02
    replace gr10 := frozenG hG' dr10 (by dsimp only <;> omega) gr10
    replace gr11 := frozenG hG' dr11 (by dsimp only <;> omega) gr11
    replace gr12 := frozenG hG' dr12 (by dsimp only <;> omega) gr12
    replace dr00 := cellG hG' dr00 (by dsimp only <;> omega)
    replace dr01 := cellG hG' dr01 (by dsimp only <;> omega)
    replace dr02 := cellG hG' dr02 (by dsimp only <;> omega)
    replace dr10 := cellG hG' dr10 (by dsimp only <;> omega)
    replace dr11 := cellG hG' dr11 (by dsimp only <;> omega)
    replace dr12 := cellG hG' dr12 (by dsimp only <;> omega)
    replace db000 := cellG hG' db000 (by dsimp only <;> omega)
    replace db001 := cellG hG' db001 (by dsimp only <;> omega)
    replace db010 := cellG hG' db010 (by dsimp only <;> omega)
    replace db011 := cellG hG' db011 (by dsimp only <;> omega)
    replace db012 := cellG hG' db012 (by dsimp only <;> omega)
    replace db100 := cellG hG' db100 (by dsimp only <;> omega)
    replace db101 := cellG hG' db101 (by dsimp only <;> omega)
    replace db102 := cellG hG' db102 (by dsimp only <;> omega)
    replace hs := hs'
    replace hG := grownBy_trans hG hG'
    clear hs' hG'
    have hf := field_of hpm
    have hp := Pl.field_bd hf
    obtain ⟨hp1, hp2⟩ := hp
    clear hpm
    go_wp2_with fail
    have h_r0 : Res3 _ (w.heap.size) := ⟨World.block_lt_of_cell? _ _ dr00, ⟨_, dr00⟩, ⟨_, dr01⟩, ⟨_, dr02⟩, fun j hj => by match j, hj with | 0, _ => exact gr00 | 1, _ => exact gr01 | 2, _ => exact gr02⟩
    have h_r1 : Res3 _ (w.heap.size + 1) := ⟨World.block_lt_of_cell? _ _ dr10, ⟨_, dr10⟩, ⟨_, dr11⟩, ⟨_, dr12⟩, fun j hj => by match j, hj with | 0, _ => exact gr10 | 1, _ => exact gr11 | 2, _ => exact gr12⟩
    clear dr00 gr00 dr01 gr01 dr02 gr02 dr10 gr10 dr11 gr11 dr12 gr12
    refine Reg.wp_region_steps7 (by kernel_rfl) 10 (by kernel_rfl) (fun wq => Hid (Src wq B bs v ∧ w.grownBy wq (some bs) ∧ wq.cell? ⟨r_0, 0, none⟩ = some (.int .i64 ax) ∧ wq.cell? ⟨r_0, 1, none⟩ = some (.int .i64 ay) ∧ wq.cell? ⟨r_0 + 1, 0, none⟩ = some (.int .i64 la) ∧ wq.cell? ⟨r_0 + 1, 1, none⟩ = some (.int .i64 lb) ∧ wq.cell? ⟨r_0 + 1, 2, none⟩ = some (.int .i64 lc) ∧ wq.cell? ⟨r_1, 0, none⟩ = some (.int .i64 ta) ∧ wq.cell? ⟨r_1, 1, none⟩ = some (.int .i64 tb) ∧ wq.cell? ⟨r_1, 2, none⟩ = some (.int .i64 tc) ∧ Res3 wq (w.heap.size) ∧ Res3 wq (w.heap.size + 1))) [(fun v => v = .int .i64 p), (fun v => v = .int .i64 k), (fun v => v = .agg #[.int .i64 la, .int .i64 lb, .int .i64 lc]), (fun v => v = .pointer (some ⟨bs, 0, none⟩)), (fun v => v = .int .i64 u), IsL, (fun v => v = .int .i64 p), (fun v => v = .int .i64 k), Reg.anyV, Reg.anyV] (Reg.inh_cons ⟨_, rfl⟩ (Reg.inh_cons ⟨_, rfl⟩ (Reg.inh_cons ⟨_, rfl⟩ (Reg.inh_cons ⟨_, rfl⟩ (Reg.inh_cons ⟨_, rfl⟩ (Reg.inh_cons ⟨.agg #[.int .i64 0, .int .i64 0, .int .i64 0], _, _, _, rfl⟩ (Reg.inh_cons ⟨_, rfl⟩ (Reg.inh_cons ⟨_, rfl⟩ (Reg.inh_cons ⟨undef, trivial⟩ (Reg.inh_cons ⟨undef, trivial⟩ (Reg.inh_nil))))))))))) ?_ ?_
    · exact hid ⟨hs.drew, grownBy_drew hG, keepC (Below.refl _ _).drew db000, keepC (Below.refl _ _).drew db001, keepC (Below.refl _ _).drew db010, keepC (Below.refl _ _).drew db011, keepC (Below.refl _ _).drew db012, keepC (Below.refl _ _).drew db100, keepC (Below.refl _ _).drew db101, keepC (Below.refl _ _).drew db102, h_r0.keep (Below.refl _ _).drew, h_r1.keep (Below.refl _ _).drew⟩
    clear hs hG db000 db001 db010 db011 db012 db100 db101 db102 h_r0 h_r1
    simp only [List.take_succ_cons, List.take_zero, List.drop_succ_cons, List.drop_zero]
    refine Reg.wpS7_val (fun wq hq => ?gs5x0) ?ks5x0
    case gs5x0 => (obtain ⟨hs, hG, db000, db001, db010, db011, db012, db100, db101, db102, h_r0, h_r1⟩ := hq.out; go_simp; first | done | (with_reducible rfl) | rfl)
    try simp only [Act.put, List.setIfInBounds_toArray, List.set_cons_zero, List.set_cons_succ]
    refine Reg.wpS7_val (fun wq hq => ?gs5x1) ?ks5x1
    case gs5x1 => (obtain ⟨hs, hG, db000, db001, db010, db011, db012, db100, db101, db102, h_r0, h_r1⟩ := hq.out; go_simp; first | done | (with_reducible rfl) | rfl)
    try simp only [Act.put, List.setIfInBounds_toArray, List.set_cons_zero, List.set_cons_succ]
    refine Reg.wpS7_val (fun wq hq => ?gs5x2) ?ks5x2
    case gs5x2 => (obtain ⟨hs, hG, db000, db001, db010, db011, db012, db100, db101, db102, h_r0, h_r1⟩ := hq.out; go_simp; first | done | (with_reducible rfl) | rfl)
    try simp only [Act.put, List.setIfInBounds_toArray, List.set_cons_zero, List.set_cons_succ]
    refine Reg.wpS7_val (fun wq hq => ?gs5x3) ?ks5x3
    case gs5x3 => (obtain ⟨hs, hG, db000, db001, db010, db011, db012, db100, db101, db102, h_r0, h_r1⟩ := hq.out; go_simp; first | done | (with_reducible rfl) | rfl)
    try simp only [Act.put, List.setIfInBounds_toArray, List.set_cons_zero, List.set_cons_succ]
    refine Reg.wpS7_val (fun wq hq => ?gs5x4) ?ks5x4
    case gs5x4 => (obtain ⟨hs, hG, db000, db001, db010, db011, db012, db100, db101, db102, h_r0, h_r1⟩ := hq.out; go_simp; first | done | (with_reducible rfl) | rfl)
    try simp only [Act.put, List.setIfInBounds_toArray, List.set_cons_zero, List.set_cons_succ]
    refine Reg.wpS7_step (fun wq hq => ?gs5x5) ?ks5x5
    case gs5x5 =>
      obtain ⟨hs, hG, db000, db001, db010, db011, db012, db100, db101, db102, h_r0, h_r1⟩ := hq.out
      refine Reg.sAt7_call (f := 128) (args := #[.pointer (some ⟨bs, 0, none⟩), .int .i64 u]) (by go_simp) ?_
      refine (drawLine_any u (by omega) (by omega) B bs v _ hs).mono ?_
      rintro e w' ⟨⟨q0, q1, q2, rfl, _⟩, hs', hG'⟩
      replace h_r0 := h_r0.grown hG' (by omega)
      replace h_r1 := h_r1.grown hG' (by omega)
      replace db000 := cellG hG' db000 (by dsimp only <;> omega)
      replace db001 := cellG hG' db001 (by dsimp only <;> omega)
      replace db010 := cellG hG' db010 (by dsimp only <;> omega)
      replace db011 := cellG hG' db011 (by dsimp only <;> omega)
      replace db012 := cellG hG' db012 (by dsimp only <;> omega)
      replace db100 := cellG hG' db100 (by dsimp only <;> omega)
      replace db101 := cellG hG' db101 (by dsimp only <;> omega)
      replace db102 := cellG hG' db102 (by dsimp only <;> omega)
      replace hs := hs'
      replace hG := grownBy_trans hG hG'
      clear hs' hG'
      exact ⟨_, rfl, ⟨_, _, _, rfl⟩, hid ⟨hs, hG, db000, db001, db010, db011, db012, db100, db101, db102, h_r0, h_r1⟩⟩
    rintro _ ⟨xa, xb, xc, rfl⟩
    try simp only [Act.put, List.setIfInBounds_toArray, List.set_cons_zero, List.set_cons_succ]
    refine Reg.wpS7_val (fun wq hq => ?gs5x6) ?ks5x6
    case gs5x6 => (obtain ⟨hs, hG, db000, db001, db010, db011, db012, db100, db101, db102, h_r0, h_r1⟩ := hq.out; go_simp; first | done | (with_reducible rfl) | rfl)
    try simp only [Act.put, List.setIfInBounds_toArray, List.set_cons_zero, List.set_cons_succ]
    refine Reg.wpS7_val (fun wq hq => ?gs5x7) ?ks5x7
    case gs5x7 => (obtain ⟨hs, hG, db000, db001, db010, db011, db012, db100, db101, db102, h_r0, h_r1⟩ := hq.out; go_simp; first | done | (with_reducible rfl) | rfl)
    try simp only [Act.put, List.setIfInBounds_toArray, List.set_cons_zero, List.set_cons_succ]
    refine Reg.wpS7_skip rfl (fun wq hq => ?gs5x8) ?ks5x8
    case gs5x8 =>
      obtain ⟨hs, hG, db000, db001, db010, db011, db012, db100, db101, db102, h_r0, h_r1⟩ := hq.out
      have hres := h_r0
      obtain ⟨_, ⟨x0, cc0⟩, ⟨x1, cc1⟩, ⟨x2, cc2⟩, hz⟩ := h_r0
      have ff0 := hz 0 (by omega)
      have ff1 := hz 1 (by omega)
      have ff2 := hz 2 (by omega)
      exact ⟨put3 wq (w.heap.size) (la) (lb) (lc), by unfold put3; go_simp, hid ⟨hs.put (put3_heap _ _ _ _ _) (put3_size _ _ _ _ _) (by omega) (by omega), grown_put3 hG (by omega) _ _ _, cellP (put3_heap _ _ _ _ _) db000 (by dsimp only <;> omega), cellP (put3_heap _ _ _ _ _) db001 (by dsimp only <;> omega), cellP (put3_heap _ _ _ _ _) db010 (by dsimp only <;> omega), cellP (put3_heap _ _ _ _ _) db011 (by dsimp only <;> omega), cellP (put3_heap _ _ _ _ _) db012 (by dsimp only <;> omega), cellP (put3_heap _ _ _ _ _) db100 (by dsimp only <;> omega), cellP (put3_heap _ _ _ _ _) db101 (by dsimp only <;> omega), cellP (put3_heap _ _ _ _ _) db102 (by dsimp only <;> omega), hres.put _ _ _, h_r1.heap (by rw [put3_size]; exact Nat.le_refl _) (put3_heap _ _ _ _ _ _ (by omega))⟩⟩
    try simp only [Act.put, List.setIfInBounds_toArray, List.set_cons_zero, List.set_cons_succ]
    refine Reg.wpS7_skip rfl (fun wq hq => ?gs5x9) ?ks5x9
    case gs5x9 =>
      obtain ⟨hs, hG, db000, db001, db010, db011, db012, db100, db101, db102, h_r0, h_r1⟩ := hq.out
      have hres := h_r1
      obtain ⟨_, ⟨x0, cc0⟩, ⟨x1, cc1⟩, ⟨x2, cc2⟩, hz⟩ := h_r1
      have ff0 := hz 0 (by omega)
      have ff1 := hz 1 (by omega)
      have ff2 := hz 2 (by omega)
      exact ⟨put3 wq (w.heap.size + 1) (xa) (xb) (xc), by unfold put3; go_simp, hid ⟨hs.put (put3_heap _ _ _ _ _) (put3_size _ _ _ _ _) (by omega) (by omega), grown_put3 hG (by omega) _ _ _, cellP (put3_heap _ _ _ _ _) db000 (by dsimp only <;> omega), cellP (put3_heap _ _ _ _ _) db001 (by dsimp only <;> omega), cellP (put3_heap _ _ _ _ _) db010 (by dsimp only <;> omega), cellP (put3_heap _ _ _ _ _) db011 (by dsimp only <;> omega), cellP (put3_heap _ _ _ _ _) db012 (by dsimp only <;> omega), cellP (put3_heap _ _ _ _ _) db100 (by dsimp only <;> omega), cellP (put3_heap _ _ _ _ _) db101 (by dsimp only <;> omega), cellP (put3_heap _ _ _ _ _) db102 (by dsimp only <;> omega), h_r0.heap (by rw [put3_size]; exact Nat.le_refl _) (put3_heap _ _ _ _ _ _ (by omega)), hres.put _ _ _⟩⟩
    try simp only [Act.put, List.setIfInBounds_toArray, List.set_cons_zero, List.set_cons_succ]
    intro w2 hq
    obtain ⟨hs, hG, db000, db001, db010, db011, db012, db100, db101, db102, h_r0, h_r1⟩ := hq.out
    clear hq
    change wpList _ _ _ _ _ _
    obtain ⟨_, ⟨x00, cr00⟩, ⟨x01, cr01⟩, ⟨x02, cr02⟩, _⟩ := h_r0
    obtain ⟨_, ⟨x10, cr10⟩, ⟨x11, cr11⟩, ⟨x12, cr12⟩, _⟩ := h_r1
    go_wp2_with fail
    try simp only [Exit.inBlock, Exit.then]
    refine bodyPost_ret (by simp [results, Try.results49, go_sem, cr00, cr01, cr02, cr10, cr11, cr12]; try rfl) rfl ?_
    exact ⟨⟨_, _, _, _, _, _, _, _, rfl⟩, by have hBf := below_grown (Below.refl w.heap.size w) hG (by omega) (by omega); first | exact hBf | (rw [hbs]; exact hBf) | go_grown⟩
end Go.Proofs.Ytbjcbbnfgfmllaa
