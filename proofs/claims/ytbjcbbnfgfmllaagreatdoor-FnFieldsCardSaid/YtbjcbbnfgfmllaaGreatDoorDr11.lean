/- Contracts: draws of layer 1. -/
import Derived.Test.YtbjcbbnfgfmllaaGreatDoorDr6
import Derived.Test.YtbjcbbnfgfmllaaGreatDoorH
import Derived.Test.YtbjcbbnfgfmllaaGreatDoorJ
set_option linter.unusedVariables false
set_option linter.unusedSimpArgs false
set_option maxHeartbeats 1000000
set_option maxRecDepth 100000
namespace Go.Proofs.YtbjcbbnfgfmllaaGreatDoor
open Go.RowKit
theorem near1_any (m : Int) (hm1 : 0 ≤ m) (hm2 : m ≤ 1000) (B bs : Nat) (v : Value) (w : World) (hs : Src w B bs v) :
    Calls Tryz.prog 81 #[.pointer (some ⟨bs, 0, none⟩), .int .i64 m] w fun e w' => AnyInt e ∧ Src w' B bs v ∧ w.grownBy w' (some bs) := by
  have hlt := hs.lt
  have hlow := hs.low
  have hG := World.grownBy.refl w (some bs)
  have e0 : IntKind.i64.wrap (m + 1) = m + 1 := IntWalk.i64_in _ (by omega)
  go_enter Tryz.func81, Tryz.ntmps81
  go_wp2_with (first | (go_at_call 75; refine (next_any _ B bs v _ hs).mono ?_; rintro e w' ⟨⟨q, rfl, hq0, hq1, _⟩, hs', hG'⟩; replace hs := hs'; replace hG := grownBy_trans hG hG') | (go_at_call 95; refine (pickL [-1, m + 1, 1099511627776, -4611686018427387904] 4 rfl (by omega) (by omega) B bs v _ hs _ _ rfl).mono ?_; rintro e w' ⟨⟨q, rfl, hq⟩, hs', hG'⟩; replace hs := hs'; replace hG := grownBy_trans hG hG'))
  all_goals go_ret
  all_goals exact ⟨⟨_, rfl⟩, hs, hG⟩
theorem three1_any (v : Value) (w : World) (hv : Bytes w w.heap.size v) :
    Calls Tryz.prog 49 #[v] w fun e w' => (∃ o0 o1x o1y o2x o2y o3x o3y : Int, e = .returned (.tuple #[.int .i64 o0, .agg #[.int .i64 o1x, .int .i64 o1y], .agg #[.int .i64 o2x, .int .i64 o2y], .agg #[.int .i64 o3x, .int .i64 o3y]])) ∧ Below w.heap.size w w' := by
  obtain ⟨B, hBw⟩ : ∃ B, B = w.heap.size := ⟨_, rfl⟩
  have hv0 : Bytes w B v := by rw [hBw]; exact hv
  clear hv
  go_enter Tryz.func49, Tryz.ntmps49
  go_wp2_with fail
  generalize hW : (World.alloc (World.alloc (World.alloc w (.cells #[.int .i64 0, .int .i64 0] 29)) (.cells #[.int .i64 0, .int .i64 0] 29)) (.cells #[.int .i64 0, .int .i64 0] 29)) = W
  have dr00 : W.cell? ⟨w.heap.size, 0, none⟩ = some (.int .i64 0) := by subst hW; go_simp
  have gr00 : W.frozen? ⟨w.heap.size, 0, none⟩ = false := by subst hW; go_simp
  have dr01 : W.cell? ⟨w.heap.size, 1, none⟩ = some (.int .i64 0) := by subst hW; go_simp
  have gr01 : W.frozen? ⟨w.heap.size, 1, none⟩ = false := by subst hW; go_simp
  have dr10 : W.cell? ⟨w.heap.size + 1, 0, none⟩ = some (.int .i64 0) := by subst hW; go_simp
  have gr10 : W.frozen? ⟨w.heap.size + 1, 0, none⟩ = false := by subst hW; go_simp
  have dr11 : W.cell? ⟨w.heap.size + 1, 1, none⟩ = some (.int .i64 0) := by subst hW; go_simp
  have gr11 : W.frozen? ⟨w.heap.size + 1, 1, none⟩ = false := by subst hW; go_simp
  have dr20 : W.cell? ⟨w.heap.size + 1 + 1, 0, none⟩ = some (.int .i64 0) := by subst hW; go_simp
  have gr20 : W.frozen? ⟨w.heap.size + 1 + 1, 0, none⟩ = false := by subst hW; go_simp
  have dr21 : W.cell? ⟨w.heap.size + 1 + 1, 1, none⟩ = some (.int .i64 0) := by subst hW; go_simp
  have gr21 : W.frozen? ⟨w.heap.size + 1 + 1, 1, none⟩ = false := by subst hW; go_simp
  have hv1 : Bytes W B v := by subst hW; exact (((hv0).alloc _).alloc _).alloc _
  have hB : Below w.heap.size w W := by subst hW; go_grown
  have hbs : w.heap.size + 3 ≤ W.heap.size := by subst hW; simp
  clear hW hv0
  refine (from_any v B W hv1 (by omega)).mono ?_
  rintro e w1 ⟨rfl, hs, hbn⟩
  replace gr00 := keepF hbn dr00 gr00
  replace gr01 := keepF hbn dr01 gr01
  replace gr10 := keepF hbn dr10 gr10
  replace gr11 := keepF hbn dr11 gr11
  replace gr20 := keepF hbn dr20 gr20
  replace gr21 := keepF hbn dr21 gr21
  replace dr00 := keepC hbn dr00
  replace dr01 := keepC hbn dr01
  replace dr10 := keepC hbn dr10
  replace dr11 := keepC hbn dr11
  replace dr20 := keepC hbn dr20
  replace dr21 := keepC hbn dr21
  have hG : w.grownBy w1 (some W.heap.size) := grown_below (below_of hB hbn hB.size)
  clear hB hbn hv1
  generalize W.heap.size = bs at *
  clear W
  have hlow := hs.low
  go_wp2_with fail
  go_wp2_with fail
  refine (drawField_any B bs v _ hs).mono ?_
  rintro e w' ⟨⟨p, rfl, hpm⟩, hs', hG'⟩
  replace gr00 := frozenG hG' dr00 (by dsimp only <;> omega) gr00
  replace gr01 := frozenG hG' dr01 (by dsimp only <;> omega) gr01
  replace gr10 := frozenG hG' dr10 (by dsimp only <;> omega) gr10
  replace gr11 := frozenG hG' dr11 (by dsimp only <;> omega) gr11
  replace gr20 := frozenG hG' dr20 (by dsimp only <;> omega) gr20
  replace gr21 := frozenG hG' dr21 (by dsimp only <;> omega) gr21
  replace dr00 := cellG hG' dr00 (by dsimp only <;> omega)
  replace dr01 := cellG hG' dr01 (by dsimp only <;> omega)
  replace dr10 := cellG hG' dr10 (by dsimp only <;> omega)
  replace dr11 := cellG hG' dr11 (by dsimp only <;> omega)
  replace dr20 := cellG hG' dr20 (by dsimp only <;> omega)
  replace dr21 := cellG hG' dr21 (by dsimp only <;> omega)
  replace hs := hs'
  replace hG := grownBy_trans hG hG'
  clear hs' hG'
  have hf := field_of hpm
  have hp := Pl.field_bd hf
  obtain ⟨hp1, hp2⟩ := hp
  clear hpm
  go_wp2_with fail
  refine (drawPoint_any p (by omega) B bs v _ hs).mono ?_
  rintro e w' ⟨⟨ax, ay, rfl, ax1, ax2, ay1, ay2⟩, hs', hG'⟩
  replace gr00 := frozenG hG' dr00 (by dsimp only <;> omega) gr00
  replace gr01 := frozenG hG' dr01 (by dsimp only <;> omega) gr01
  replace gr10 := frozenG hG' dr10 (by dsimp only <;> omega) gr10
  replace gr11 := frozenG hG' dr11 (by dsimp only <;> omega) gr11
  replace gr20 := frozenG hG' dr20 (by dsimp only <;> omega) gr20
  replace gr21 := frozenG hG' dr21 (by dsimp only <;> omega) gr21
  replace dr00 := cellG hG' dr00 (by dsimp only <;> omega)
  replace dr01 := cellG hG' dr01 (by dsimp only <;> omega)
  replace dr10 := cellG hG' dr10 (by dsimp only <;> omega)
  replace dr11 := cellG hG' dr11 (by dsimp only <;> omega)
  replace dr20 := cellG hG' dr20 (by dsimp only <;> omega)
  replace dr21 := cellG hG' dr21 (by dsimp only <;> omega)
  replace hs := hs'
  replace hG := grownBy_trans hG hG'
  clear hs' hG'
  go_wp2_with fail
  refine (drawPoint_any p (by omega) B bs v _ hs).mono ?_
  rintro e w' ⟨⟨bx, by_, rfl, bx1, bx2, by_1, by_2⟩, hs', hG'⟩
  replace gr00 := frozenG hG' dr00 (by dsimp only <;> omega) gr00
  replace gr01 := frozenG hG' dr01 (by dsimp only <;> omega) gr01
  replace gr10 := frozenG hG' dr10 (by dsimp only <;> omega) gr10
  replace gr11 := frozenG hG' dr11 (by dsimp only <;> omega) gr11
  replace gr20 := frozenG hG' dr20 (by dsimp only <;> omega) gr20
  replace gr21 := frozenG hG' dr21 (by dsimp only <;> omega) gr21
  replace dr00 := cellG hG' dr00 (by dsimp only <;> omega)
  replace dr01 := cellG hG' dr01 (by dsimp only <;> omega)
  replace dr10 := cellG hG' dr10 (by dsimp only <;> omega)
  replace dr11 := cellG hG' dr11 (by dsimp only <;> omega)
  replace dr20 := cellG hG' dr20 (by dsimp only <;> omega)
  replace dr21 := cellG hG' dr21 (by dsimp only <;> omega)
  replace hs := hs'
  replace hG := grownBy_trans hG hG'
  clear hs' hG'
  go_wp2_with fail
  refine (drawPoint_any p (by omega) B bs v _ hs).mono ?_
  rintro e w' ⟨⟨cx, cy, rfl, cx1, cx2, cy1, cy2⟩, hs', hG'⟩
  replace gr00 := frozenG hG' dr00 (by dsimp only <;> omega) gr00
  replace gr01 := frozenG hG' dr01 (by dsimp only <;> omega) gr01
  replace gr10 := frozenG hG' dr10 (by dsimp only <;> omega) gr10
  replace gr11 := frozenG hG' dr11 (by dsimp only <;> omega) gr11
  replace gr20 := frozenG hG' dr20 (by dsimp only <;> omega) gr20
  replace gr21 := frozenG hG' dr21 (by dsimp only <;> omega) gr21
  replace dr00 := cellG hG' dr00 (by dsimp only <;> omega)
  replace dr01 := cellG hG' dr01 (by dsimp only <;> omega)
  replace dr10 := cellG hG' dr10 (by dsimp only <;> omega)
  replace dr11 := cellG hG' dr11 (by dsimp only <;> omega)
  replace dr20 := cellG hG' dr20 (by dsimp only <;> omega)
  replace dr21 := cellG hG' dr21 (by dsimp only <;> omega)
  replace hs := hs'
  replace hG := grownBy_trans hG hG'
  clear hs' hG'
  go_wp2_with fail
  generalize hW : (World.alloc (World.alloc (World.alloc w' (.cells #[.int .i64 ax, .int .i64 ay] 29)) (.cells #[.int .i64 bx, .int .i64 by_] 29)) (.cells #[.int .i64 cx, .int .i64 cy] 29)) = W3
  have db000 : W3.cell? ⟨w'.heap.size, 0, none⟩ = some (.int .i64 ax) := by subst hW; go_simp
  have db001 : W3.cell? ⟨w'.heap.size, 1, none⟩ = some (.int .i64 ay) := by subst hW; go_simp
  have db010 : W3.cell? ⟨w'.heap.size + 1, 0, none⟩ = some (.int .i64 bx) := by subst hW; go_simp
  have gb010 : W3.frozen? ⟨w'.heap.size + 1, 0, none⟩ = false := by subst hW; go_simp
  have db011 : W3.cell? ⟨w'.heap.size + 1, 1, none⟩ = some (.int .i64 by_) := by subst hW; go_simp
  have gb011 : W3.frozen? ⟨w'.heap.size + 1, 1, none⟩ = false := by subst hW; go_simp
  have db020 : W3.cell? ⟨w'.heap.size + 1 + 1, 0, none⟩ = some (.int .i64 cx) := by subst hW; go_simp
  have gb020 : W3.frozen? ⟨w'.heap.size + 1 + 1, 0, none⟩ = false := by subst hW; go_simp
  have db021 : W3.cell? ⟨w'.heap.size + 1 + 1, 1, none⟩ = some (.int .i64 cy) := by subst hW; go_simp
  have gb021 : W3.frozen? ⟨w'.heap.size + 1 + 1, 1, none⟩ = false := by subst hW; go_simp
  have hbn : Below w'.heap.size w' W3 := by subst hW; go_grown
  replace gr00 := keepF hbn dr00 gr00
  replace gr01 := keepF hbn dr01 gr01
  replace gr10 := keepF hbn dr10 gr10
  replace gr11 := keepF hbn dr11 gr11
  replace gr20 := keepF hbn dr20 gr20
  replace gr21 := keepF hbn dr21 gr21
  replace dr00 := keepC hbn dr00
  replace dr01 := keepC hbn dr01
  replace dr10 := keepC hbn dr10
  replace dr11 := keepC hbn dr11
  replace dr20 := keepC hbn dr20
  replace dr21 := keepC hbn dr21
  have hlt0 := hs.lt
  replace hs := hs.keep hbn
  replace hG := grownBy_trans hG (grown_below hbn)
  clear hW hbn
  generalize w'.heap.size = r_0 at *
  clear w'
  refine (next_any 5 B bs v _ hs).mono ?_
  rintro e w' ⟨⟨q, rfl, hq0, hq1, _⟩, hs', hG'⟩
  replace gr00 := frozenG hG' dr00 (by dsimp only <;> omega) gr00
  replace gr01 := frozenG hG' dr01 (by dsimp only <;> omega) gr01
  replace gr10 := frozenG hG' dr10 (by dsimp only <;> omega) gr10
  replace gr11 := frozenG hG' dr11 (by dsimp only <;> omega) gr11
  replace gr20 := frozenG hG' dr20 (by dsimp only <;> omega) gr20
  replace gr21 := frozenG hG' dr21 (by dsimp only <;> omega) gr21
  replace gb010 := frozenG hG' db010 (by dsimp only <;> omega) gb010
  replace gb011 := frozenG hG' db011 (by dsimp only <;> omega) gb011
  replace gb020 := frozenG hG' db020 (by dsimp only <;> omega) gb020
  replace gb021 := frozenG hG' db021 (by dsimp only <;> omega) gb021
  replace dr00 := cellG hG' dr00 (by dsimp only <;> omega)
  replace dr01 := cellG hG' dr01 (by dsimp only <;> omega)
  replace dr10 := cellG hG' dr10 (by dsimp only <;> omega)
  replace dr11 := cellG hG' dr11 (by dsimp only <;> omega)
  replace dr20 := cellG hG' dr20 (by dsimp only <;> omega)
  replace dr21 := cellG hG' dr21 (by dsimp only <;> omega)
  replace db000 := cellG hG' db000 (by dsimp only <;> omega)
  replace db001 := cellG hG' db001 (by dsimp only <;> omega)
  replace db010 := cellG hG' db010 (by dsimp only <;> omega)
  replace db011 := cellG hG' db011 (by dsimp only <;> omega)
  replace db020 := cellG hG' db020 (by dsimp only <;> omega)
  replace db021 := cellG hG' db021 (by dsimp only <;> omega)
  replace hs := hs'
  replace hG := grownBy_trans hG hG'
  clear hs' hG'
  have hql := hq1 (by omega)
  clear hq1
  by_cases hz : q = 0
  · subst hz
    have f1n := Int.emod_nonneg (bx - ax) (show p ≠ 0 by omega)
    have f1l := Int.emod_lt_of_pos (bx - ax) (show 0 < p by omega)
    have f2n := Int.emod_nonneg (by_ - ay) (show p ≠ 0 by omega)
    have f2l := Int.emod_lt_of_pos (by_ - ay) (show 0 < p by omega)
    go_wp2_with fail
    refine Reg.wp_region_steps (by kernel_rfl) 12 (by kernel_rfl) (fun wq => Hid (Src wq B bs v ∧ w.grownBy wq (some bs) ∧ wq.cell? ⟨w.heap.size, 0, none⟩ = some (.int .i64 0) ∧ wq.frozen? ⟨w.heap.size, 0, none⟩ = false ∧ wq.cell? ⟨w.heap.size, 1, none⟩ = some (.int .i64 0) ∧ wq.frozen? ⟨w.heap.size, 1, none⟩ = false ∧ wq.cell? ⟨w.heap.size + 1, 0, none⟩ = some (.int .i64 0) ∧ wq.frozen? ⟨w.heap.size + 1, 0, none⟩ = false ∧ wq.cell? ⟨w.heap.size + 1, 1, none⟩ = some (.int .i64 0) ∧ wq.frozen? ⟨w.heap.size + 1, 1, none⟩ = false ∧ wq.cell? ⟨w.heap.size + 1 + 1, 0, none⟩ = some (.int .i64 0) ∧ wq.frozen? ⟨w.heap.size + 1 + 1, 0, none⟩ = false ∧ wq.cell? ⟨w.heap.size + 1 + 1, 1, none⟩ = some (.int .i64 0) ∧ wq.frozen? ⟨w.heap.size + 1 + 1, 1, none⟩ = false ∧ wq.cell? ⟨r_0, 0, none⟩ = some (.int .i64 ax) ∧ wq.cell? ⟨r_0, 1, none⟩ = some (.int .i64 ay) ∧ wq.cell? ⟨r_0 + 1, 0, none⟩ = some (.int .i64 bx) ∧ wq.frozen? ⟨r_0 + 1, 0, none⟩ = false ∧ wq.cell? ⟨r_0 + 1, 1, none⟩ = some (.int .i64 by_) ∧ wq.frozen? ⟨r_0 + 1, 1, none⟩ = false ∧ wq.cell? ⟨r_0 + 1 + 1, 0, none⟩ = some (.int .i64 cx) ∧ wq.frozen? ⟨r_0 + 1 + 1, 0, none⟩ = false ∧ wq.cell? ⟨r_0 + 1 + 1, 1, none⟩ = some (.int .i64 cy) ∧ wq.frozen? ⟨r_0 + 1 + 1, 1, none⟩ = false)) [(fun v => v = .int .i64 p), (fun v => v = .agg #[.int .i64 ax, .int .i64 ay]), (fun v => v = .int .i64 p), (fun v => v = .pointer (some ⟨bs, 0, none⟩)), (fun v => v = .int .i64 p), (IsN p), (fun v => v = .int .i64 p), (fun v => v = .agg #[.int .i64 bx, .int .i64 by_]), (fun v => v = .agg #[.int .i64 ax, .int .i64 ay]), (fun v => v = .agg #[.int .i64 ((bx - ax) % p), .int .i64 ((by_ - ay) % p)]), (IsPt p), (IsPt p)] (Reg.inh_cons ⟨_, rfl⟩ (Reg.inh_cons ⟨_, rfl⟩ (Reg.inh_cons ⟨_, rfl⟩ (Reg.inh_cons ⟨_, rfl⟩ (Reg.inh_cons ⟨_, rfl⟩ (Reg.inh_cons ⟨.int .i64 0, 0, rfl, by omega, by omega⟩ (Reg.inh_cons ⟨_, rfl⟩ (Reg.inh_cons ⟨_, rfl⟩ (Reg.inh_cons ⟨_, rfl⟩ (Reg.inh_cons ⟨_, rfl⟩ (Reg.inh_cons ⟨.agg #[.int .i64 0, .int .i64 0], 0, 0, rfl, by omega, by omega, by omega, by omega⟩ (Reg.inh_cons ⟨.agg #[.int .i64 0, .int .i64 0], 0, 0, rfl, by omega, by omega, by omega, by omega⟩ (Reg.inh_nil))))))))))))) ?_ ?_
    · exact hid ⟨hs.drew, grownBy_drew hG, keepC (Below.refl _ _).drew dr00, keepF (Below.refl _ _).drew dr00 gr00, keepC (Below.refl _ _).drew dr01, keepF (Below.refl _ _).drew dr01 gr01, keepC (Below.refl _ _).drew dr10, keepF (Below.refl _ _).drew dr10 gr10, keepC (Below.refl _ _).drew dr11, keepF (Below.refl _ _).drew dr11 gr11, keepC (Below.refl _ _).drew dr20, keepF (Below.refl _ _).drew dr20 gr20, keepC (Below.refl _ _).drew dr21, keepF (Below.refl _ _).drew dr21 gr21, keepC (Below.refl _ _).drew db000, keepC (Below.refl _ _).drew db001, keepC (Below.refl _ _).drew db010, keepF (Below.refl _ _).drew db010 gb010, keepC (Below.refl _ _).drew db011, keepF (Below.refl _ _).drew db011 gb011, keepC (Below.refl _ _).drew db020, keepF (Below.refl _ _).drew db020 gb020, keepC (Below.refl _ _).drew db021, keepF (Below.refl _ _).drew db021 gb021⟩
    clear hs hG dr00 gr00 dr01 gr01 dr10 gr10 dr11 gr11 dr20 gr20 dr21 gr21 db000 db001 db010 gb010 db011 gb011 db020 gb020 db021 gb021
    simp only [List.take_succ_cons, List.take_zero, List.drop_succ_cons, List.drop_zero]
    refine Reg.wpSq_val (fun wq hq => ?gs1x0) ?ks1x0
    case gs1x0 => (obtain ⟨hs, hG, dr00, gr00, dr01, gr01, dr10, gr10, dr11, gr11, dr20, gr20, dr21, gr21, db000, db001, db010, gb010, db011, gb011, db020, gb020, db021, gb021⟩ := hq.out; go_simp; first | done | (with_reducible rfl) | rfl)
    try simp only [Act.put, List.setIfInBounds_toArray, List.set_cons_zero, List.set_cons_succ]
    refine Reg.wpSq_val (fun wq hq => ?gs1x1) ?ks1x1
    case gs1x1 => (obtain ⟨hs, hG, dr00, gr00, dr01, gr01, dr10, gr10, dr11, gr11, dr20, gr20, dr21, gr21, db000, db001, db010, gb010, db011, gb011, db020, gb020, db021, gb021⟩ := hq.out; go_simp; first | done | (with_reducible rfl) | rfl)
    try simp only [Act.put, List.setIfInBounds_toArray, List.set_cons_zero, List.set_cons_succ]
    refine Reg.wpSq_val (fun wq hq => ?gs1x2) ?ks1x2
    case gs1x2 => (obtain ⟨hs, hG, dr00, gr00, dr01, gr01, dr10, gr10, dr11, gr11, dr20, gr20, dr21, gr21, db000, db001, db010, gb010, db011, gb011, db020, gb020, db021, gb021⟩ := hq.out; go_simp; first | done | (with_reducible rfl) | rfl)
    try simp only [Act.put, List.setIfInBounds_toArray, List.set_cons_zero, List.set_cons_succ]
    refine Reg.wpSq_val (fun wq hq => ?gs1x3) ?ks1x3
    case gs1x3 => (obtain ⟨hs, hG, dr00, gr00, dr01, gr01, dr10, gr10, dr11, gr11, dr20, gr20, dr21, gr21, db000, db001, db010, gb010, db011, gb011, db020, gb020, db021, gb021⟩ := hq.out; go_simp; first | done | (with_reducible rfl) | rfl)
    try simp only [Act.put, List.setIfInBounds_toArray, List.set_cons_zero, List.set_cons_succ]
    refine Reg.wpSq_val (fun wq hq => ?gs1x4) ?ks1x4
    case gs1x4 => (obtain ⟨hs, hG, dr00, gr00, dr01, gr01, dr10, gr10, dr11, gr11, dr20, gr20, dr21, gr21, db000, db001, db010, gb010, db011, gb011, db020, gb020, db021, gb021⟩ := hq.out; go_simp; first | done | (with_reducible rfl) | rfl)
    try simp only [Act.put, List.setIfInBounds_toArray, List.set_cons_zero, List.set_cons_succ]
    refine Reg.wpSq_step (fun wq hq => ?gs1x5) ?ks1x5
    case gs1x5 =>
      obtain ⟨hs, hG, dr00, gr00, dr01, gr01, dr10, gr10, dr11, gr11, dr20, gr20, dr21, gr21, db000, db001, db010, gb010, db011, gb011, db020, gb020, db021, gb021⟩ := hq.out
      refine Reg.sAt_call (f := 75) (args := #[.pointer (some ⟨bs, 0, none⟩), .int .i64 p]) (by go_simp) ?_
      refine (next_any p B bs v _ hs).mono ?_
      rintro e w' ⟨⟨q9, rfl, hq9, hq8, _⟩, hs', hG'⟩
      replace gr00 := frozenG hG' dr00 (by dsimp only <;> omega) gr00
      replace gr01 := frozenG hG' dr01 (by dsimp only <;> omega) gr01
      replace gr10 := frozenG hG' dr10 (by dsimp only <;> omega) gr10
      replace gr11 := frozenG hG' dr11 (by dsimp only <;> omega) gr11
      replace gr20 := frozenG hG' dr20 (by dsimp only <;> omega) gr20
      replace gr21 := frozenG hG' dr21 (by dsimp only <;> omega) gr21
      replace gb010 := frozenG hG' db010 (by dsimp only <;> omega) gb010
      replace gb011 := frozenG hG' db011 (by dsimp only <;> omega) gb011
      replace gb020 := frozenG hG' db020 (by dsimp only <;> omega) gb020
      replace gb021 := frozenG hG' db021 (by dsimp only <;> omega) gb021
      replace dr00 := cellG hG' dr00 (by dsimp only <;> omega)
      replace dr01 := cellG hG' dr01 (by dsimp only <;> omega)
      replace dr10 := cellG hG' dr10 (by dsimp only <;> omega)
      replace dr11 := cellG hG' dr11 (by dsimp only <;> omega)
      replace dr20 := cellG hG' dr20 (by dsimp only <;> omega)
      replace dr21 := cellG hG' dr21 (by dsimp only <;> omega)
      replace db000 := cellG hG' db000 (by dsimp only <;> omega)
      replace db001 := cellG hG' db001 (by dsimp only <;> omega)
      replace db010 := cellG hG' db010 (by dsimp only <;> omega)
      replace db011 := cellG hG' db011 (by dsimp only <;> omega)
      replace db020 := cellG hG' db020 (by dsimp only <;> omega)
      replace db021 := cellG hG' db021 (by dsimp only <;> omega)
      replace hs := hs'
      replace hG := grownBy_trans hG hG'
      clear hs' hG'
      exact ⟨_, rfl, ⟨_, rfl, hq9, hq8 (by omega)⟩, hid ⟨hs, hG, dr00, gr00, dr01, gr01, dr10, gr10, dr11, gr11, dr20, gr20, dr21, gr21, db000, db001, db010, gb010, db011, gb011, db020, gb020, db021, gb021⟩⟩
    rintro _ ⟨t, rfl, t1, t2⟩
    try simp only [Act.put, List.setIfInBounds_toArray, List.set_cons_zero, List.set_cons_succ]
    refine Reg.wpSq_val (fun wq hq => ?gs1x6) ?ks1x6
    case gs1x6 => (obtain ⟨hs, hG, dr00, gr00, dr01, gr01, dr10, gr10, dr11, gr11, dr20, gr20, dr21, gr21, db000, db001, db010, gb010, db011, gb011, db020, gb020, db021, gb021⟩ := hq.out; go_simp; first | done | (with_reducible rfl) | rfl)
    try simp only [Act.put, List.setIfInBounds_toArray, List.set_cons_zero, List.set_cons_succ]
    refine Reg.wpSq_val (fun wq hq => ?gs1x7) ?ks1x7
    case gs1x7 => (obtain ⟨hs, hG, dr00, gr00, dr01, gr01, dr10, gr10, dr11, gr11, dr20, gr20, dr21, gr21, db000, db001, db010, gb010, db011, gb011, db020, gb020, db021, gb021⟩ := hq.out; go_simp; first | done | (with_reducible rfl) | rfl)
    try simp only [Act.put, List.setIfInBounds_toArray, List.set_cons_zero, List.set_cons_succ]
    refine Reg.wpSq_val (fun wq hq => ?gs1x8) ?ks1x8
    case gs1x8 => (obtain ⟨hs, hG, dr00, gr00, dr01, gr01, dr10, gr10, dr11, gr11, dr20, gr20, dr21, gr21, db000, db001, db010, gb010, db011, gb011, db020, gb020, db021, gb021⟩ := hq.out; go_simp; first | done | (with_reducible rfl) | rfl)
    try simp only [Act.put, List.setIfInBounds_toArray, List.set_cons_zero, List.set_cons_succ]
    refine Reg.wpSq_step (fun wq hq => ?gs1x9) ?ks1x9
    case gs1x9 =>
      obtain ⟨hs, hG, dr00, gr00, dr01, gr01, dr10, gr10, dr11, gr11, dr20, gr20, dr21, gr21, db000, db001, db010, gb010, db011, gb011, db020, gb020, db021, gb021⟩ := hq.out
      refine Reg.sAt_call (f := 55) (args := #[.int .i64 p, .agg #[.int .i64 bx, .int .i64 by_], .agg #[.int .i64 ax, .int .i64 ay]]) (by go_simp) ?_
      refine (l01Minus_any p bx by_ ax ay _ (by omega) (by omega) (by omega) (by omega) (by omega) (by omega) (by omega) (by omega) (by omega) (by omega)).mono ?_
      rintro e w' ⟨rfl, hbn⟩
      replace gr00 := keepF hbn dr00 gr00
      replace gr01 := keepF hbn dr01 gr01
      replace gr10 := keepF hbn dr10 gr10
      replace gr11 := keepF hbn dr11 gr11
      replace gr20 := keepF hbn dr20 gr20
      replace gr21 := keepF hbn dr21 gr21
      replace gb010 := keepF hbn db010 gb010
      replace gb011 := keepF hbn db011 gb011
      replace gb020 := keepF hbn db020 gb020
      replace gb021 := keepF hbn db021 gb021
      replace dr00 := keepC hbn dr00
      replace dr01 := keepC hbn dr01
      replace dr10 := keepC hbn dr10
      replace dr11 := keepC hbn dr11
      replace dr20 := keepC hbn dr20
      replace dr21 := keepC hbn dr21
      replace db000 := keepC hbn db000
      replace db001 := keepC hbn db001
      replace db010 := keepC hbn db010
      replace db011 := keepC hbn db011
      replace db020 := keepC hbn db020
      replace db021 := keepC hbn db021
      replace hs := hs.keep hbn
      replace hG := grownBy_trans hG (grown_below hbn)
      clear hbn
      exact ⟨_, rfl, rfl, hid ⟨hs, hG, dr00, gr00, dr01, gr01, dr10, gr10, dr11, gr11, dr20, gr20, dr21, gr21, db000, db001, db010, gb010, db011, gb011, db020, gb020, db021, gb021⟩⟩
    rintro _ rfl
    try simp only [Act.put, List.setIfInBounds_toArray, List.set_cons_zero, List.set_cons_succ]
    refine Reg.wpSq_step (fun wq hq => ?gs1x10) ?ks1x10
    case gs1x10 =>
      obtain ⟨hs, hG, dr00, gr00, dr01, gr01, dr10, gr10, dr11, gr11, dr20, gr20, dr21, gr21, db000, db001, db010, gb010, db011, gb011, db020, gb020, db021, gb021⟩ := hq.out
      refine Reg.sAt_call (f := 83) (args := #[.int .i64 p, .int .i64 t, .agg #[.int .i64 ((bx - ax) % p), .int .i64 ((by_ - ay) % p)]]) (by go_simp) ?_
      refine (l01Times_any p t _ _ _ (by omega) (by omega) (by omega) (by omega) (by omega) (by omega) (by omega) (by omega)).mono ?_
      rintro e w' ⟨rfl, hbn⟩
      replace gr00 := keepF hbn dr00 gr00
      replace gr01 := keepF hbn dr01 gr01
      replace gr10 := keepF hbn dr10 gr10
      replace gr11 := keepF hbn dr11 gr11
      replace gr20 := keepF hbn dr20 gr20
      replace gr21 := keepF hbn dr21 gr21
      replace gb010 := keepF hbn db010 gb010
      replace gb011 := keepF hbn db011 gb011
      replace gb020 := keepF hbn db020 gb020
      replace gb021 := keepF hbn db021 gb021
      replace dr00 := keepC hbn dr00
      replace dr01 := keepC hbn dr01
      replace dr10 := keepC hbn dr10
      replace dr11 := keepC hbn dr11
      replace dr20 := keepC hbn dr20
      replace dr21 := keepC hbn dr21
      replace db000 := keepC hbn db000
      replace db001 := keepC hbn db001
      replace db010 := keepC hbn db010
      replace db011 := keepC hbn db011
      replace db020 := keepC hbn db020
      replace db021 := keepC hbn db021
      replace hs := hs.keep hbn
      replace hG := grownBy_trans hG (grown_below hbn)
      clear hbn
      exact ⟨_, rfl, ⟨_, _, rfl, Int.emod_nonneg _ (by omega), Int.emod_lt_of_pos _ (by omega), Int.emod_nonneg _ (by omega), Int.emod_lt_of_pos _ (by omega)⟩, hid ⟨hs, hG, dr00, gr00, dr01, gr01, dr10, gr10, dr11, gr11, dr20, gr20, dr21, gr21, db000, db001, db010, gb010, db011, gb011, db020, gb020, db021, gb021⟩⟩
    rintro _ ⟨tx, ty, rfl, tx1, tx2, ty1, ty2⟩
    try simp only [Act.put, List.setIfInBounds_toArray, List.set_cons_zero, List.set_cons_succ]
    refine Reg.wpSq_step (fun wq hq => ?gs1x11) ?ks1x11
    case gs1x11 =>
      obtain ⟨hs, hG, dr00, gr00, dr01, gr01, dr10, gr10, dr11, gr11, dr20, gr20, dr21, gr21, db000, db001, db010, gb010, db011, gb011, db020, gb020, db021, gb021⟩ := hq.out
      refine Reg.sAt_call (f := 82) (args := #[.int .i64 p, .agg #[.int .i64 ax, .int .i64 ay], .agg #[.int .i64 tx, .int .i64 ty]]) (by go_simp) ?_
      refine (l01Plus_any p ax ay tx ty _ (by omega) (by omega) (by omega) (by omega) (by omega) (by omega) (by omega) (by omega) (by omega) (by omega)).mono ?_
      rintro e w' ⟨rfl, hbn⟩
      replace gr00 := keepF hbn dr00 gr00
      replace gr01 := keepF hbn dr01 gr01
      replace gr10 := keepF hbn dr10 gr10
      replace gr11 := keepF hbn dr11 gr11
      replace gr20 := keepF hbn dr20 gr20
      replace gr21 := keepF hbn dr21 gr21
      replace gb010 := keepF hbn db010 gb010
      replace gb011 := keepF hbn db011 gb011
      replace gb020 := keepF hbn db020 gb020
      replace gb021 := keepF hbn db021 gb021
      replace dr00 := keepC hbn dr00
      replace dr01 := keepC hbn dr01
      replace dr10 := keepC hbn dr10
      replace dr11 := keepC hbn dr11
      replace dr20 := keepC hbn dr20
      replace dr21 := keepC hbn dr21
      replace db000 := keepC hbn db000
      replace db001 := keepC hbn db001
      replace db010 := keepC hbn db010
      replace db011 := keepC hbn db011
      replace db020 := keepC hbn db020
      replace db021 := keepC hbn db021
      replace hs := hs.keep hbn
      replace hG := grownBy_trans hG (grown_below hbn)
      clear hbn
      exact ⟨_, rfl, ⟨_, _, rfl, Int.emod_nonneg _ (by omega), Int.emod_lt_of_pos _ (by omega), Int.emod_nonneg _ (by omega), Int.emod_lt_of_pos _ (by omega)⟩, hid ⟨hs, hG, dr00, gr00, dr01, gr01, dr10, gr10, dr11, gr11, dr20, gr20, dr21, gr21, db000, db001, db010, gb010, db011, gb011, db020, gb020, db021, gb021⟩⟩
    rintro _ ⟨ex, ey, rfl, ex1, ex2, ey1, ey2⟩
    try simp only [Act.put, List.setIfInBounds_toArray, List.set_cons_zero, List.set_cons_succ]
    intro w2 hq
    obtain ⟨hs, hG, dr00, gr00, dr01, gr01, dr10, gr10, dr11, gr11, dr20, gr20, dr21, gr21, db000, db001, db010, gb010, db011, gb011, db020, gb020, db021, gb021⟩ := hq.out
    clear hq
    change wpList _ _ _ _ _ _
    go_wp2_with fail
    generalize hW : (World.setCell (World.setCell w2 ⟨r_0 + 1 + 1, 0, none⟩ (.int .i64 ex)) ⟨r_0 + 1 + 1, 1, none⟩ (.int .i64 ey)) = W4
    have hP : ∀ k, k ≠ r_0 + 1 + 1 → W4.heap[k]? = w2.heap[k]? := by subst hW; exact put2_heap _ _ _ _
    have hZ : W4.heap.size = w2.heap.size := by subst hW; exact put2_size _ _ _ _
    have ndb020 : W4.cell? ⟨r_0 + 1 + 1, 0, none⟩ = some (.int .i64 ex) := by subst hW; simp [World.cell?_setCell_other, World.cell?_setCell_same, db020, db021]
    have ndb021 : W4.cell? ⟨r_0 + 1 + 1, 1, none⟩ = some (.int .i64 ey) := by subst hW; simp [World.cell?_setCell_other, World.cell?_setCell_same, db020, db021]
    have ngb020 : W4.frozen? ⟨r_0 + 1 + 1, 0, none⟩ = false := by subst hW; simp [gb020]
    have ngb021 : W4.frozen? ⟨r_0 + 1 + 1, 1, none⟩ = false := by subst hW; simp [gb021]
    have hG2 : w.grownBy W4 (some bs) := by subst hW; exact grown_put2 hG (by omega) _ _
    replace hs := hs.put hP hZ (by omega) (by omega)
    replace hG := hG2
    clear hG2
    replace dr00 := cellP hP dr00 (by dsimp only <;> omega)
    replace gr00 := frozenP hP gr00 (by dsimp only <;> omega)
    replace dr01 := cellP hP dr01 (by dsimp only <;> omega)
    replace gr01 := frozenP hP gr01 (by dsimp only <;> omega)
    replace dr10 := cellP hP dr10 (by dsimp only <;> omega)
    replace gr10 := frozenP hP gr10 (by dsimp only <;> omega)
    replace dr11 := cellP hP dr11 (by dsimp only <;> omega)
    replace gr11 := frozenP hP gr11 (by dsimp only <;> omega)
    replace dr20 := cellP hP dr20 (by dsimp only <;> omega)
    replace gr20 := frozenP hP gr20 (by dsimp only <;> omega)
    replace dr21 := cellP hP dr21 (by dsimp only <;> omega)
    replace gr21 := frozenP hP gr21 (by dsimp only <;> omega)
    replace db000 := cellP hP db000 (by dsimp only <;> omega)
    replace db001 := cellP hP db001 (by dsimp only <;> omega)
    replace db010 := cellP hP db010 (by dsimp only <;> omega)
    replace gb010 := frozenP hP gb010 (by dsimp only <;> omega)
    replace db011 := cellP hP db011 (by dsimp only <;> omega)
    replace gb011 := frozenP hP gb011 (by dsimp only <;> omega)
    replace db020 := ndb020
    clear ndb020
    replace gb020 := ngb020
    clear ngb020
    replace db021 := ndb021
    clear ndb021
    replace gb021 := ngb021
    clear ngb021
    clear hP hZ hW
    go_wp2_with fail
    have h_r0 : Res2 _ (w.heap.size) := ⟨World.block_lt_of_cell? _ _ dr00, ⟨_, dr00⟩, ⟨_, dr01⟩, fun j hj => by match j, hj with | 0, _ => exact gr00 | 1, _ => exact gr01⟩
    have h_r1 : Res2 _ (w.heap.size + 1) := ⟨World.block_lt_of_cell? _ _ dr10, ⟨_, dr10⟩, ⟨_, dr11⟩, fun j hj => by match j, hj with | 0, _ => exact gr10 | 1, _ => exact gr11⟩
    have h_r2 : Res2 _ (w.heap.size + 1 + 1) := ⟨World.block_lt_of_cell? _ _ dr20, ⟨_, dr20⟩, ⟨_, dr21⟩, fun j hj => by match j, hj with | 0, _ => exact gr20 | 1, _ => exact gr21⟩
    clear dr00 gr00 dr01 gr01 dr10 gr10 dr11 gr11 dr20 gr20 dr21 gr21
    refine Reg.wp_region_steps7 (by kernel_rfl) 19 (by kernel_rfl) (fun wq => Hid (Src wq B bs v ∧ w.grownBy wq (some bs) ∧ wq.cell? ⟨r_0, 0, none⟩ = some (.int .i64 ax) ∧ wq.cell? ⟨r_0, 1, none⟩ = some (.int .i64 ay) ∧ wq.cell? ⟨r_0 + 1, 0, none⟩ = some (.int .i64 bx) ∧ wq.frozen? ⟨r_0 + 1, 0, none⟩ = false ∧ wq.cell? ⟨r_0 + 1, 1, none⟩ = some (.int .i64 by_) ∧ wq.frozen? ⟨r_0 + 1, 1, none⟩ = false ∧ wq.cell? ⟨r_0 + 1 + 1, 0, none⟩ = some (.int .i64 ex) ∧ wq.frozen? ⟨r_0 + 1 + 1, 0, none⟩ = false ∧ wq.cell? ⟨r_0 + 1 + 1, 1, none⟩ = some (.int .i64 ey) ∧ wq.frozen? ⟨r_0 + 1 + 1, 1, none⟩ = false ∧ Res2 wq (w.heap.size) ∧ Res2 wq (w.heap.size + 1) ∧ Res2 wq (w.heap.size + 1 + 1))) [(fun v => v = .pointer (some ⟨bs, 0, none⟩)), (fun v => v = .int .i64 p), IsI, (fun v => v = .pointer (some ⟨bs, 0, none⟩)), (fun v => v = .int .i64 p), (fun v => v = .agg #[.int .i64 ax, .int .i64 ay]), IsP, (fun v => v = .pointer (some ⟨bs, 0, none⟩)), (fun v => v = .int .i64 p), (fun v => v = .agg #[.int .i64 bx, .int .i64 by_]), IsP, (fun v => v = .pointer (some ⟨bs, 0, none⟩)), (fun v => v = .int .i64 p), (fun v => v = .agg #[.int .i64 ex, .int .i64 ey]), IsP, IsI, Reg.anyV, Reg.anyV, Reg.anyV] (Reg.inh_cons ⟨_, rfl⟩ (Reg.inh_cons ⟨_, rfl⟩ (Reg.inh_cons ⟨.int .i64 0, _, rfl⟩ (Reg.inh_cons ⟨_, rfl⟩ (Reg.inh_cons ⟨_, rfl⟩ (Reg.inh_cons ⟨_, rfl⟩ (Reg.inh_cons ⟨.agg #[.int .i64 0, .int .i64 0], _, _, rfl⟩ (Reg.inh_cons ⟨_, rfl⟩ (Reg.inh_cons ⟨_, rfl⟩ (Reg.inh_cons ⟨_, rfl⟩ (Reg.inh_cons ⟨.agg #[.int .i64 0, .int .i64 0], _, _, rfl⟩ (Reg.inh_cons ⟨_, rfl⟩ (Reg.inh_cons ⟨_, rfl⟩ (Reg.inh_cons ⟨_, rfl⟩ (Reg.inh_cons ⟨.agg #[.int .i64 0, .int .i64 0], _, _, rfl⟩ (Reg.inh_cons ⟨.int .i64 0, _, rfl⟩ (Reg.inh_cons ⟨undef, trivial⟩ (Reg.inh_cons ⟨undef, trivial⟩ (Reg.inh_cons ⟨undef, trivial⟩ (Reg.inh_nil)))))))))))))))))))) ?_ ?_
    · exact hid ⟨hs.drew, grownBy_drew hG, keepC (Below.refl _ _).drew db000, keepC (Below.refl _ _).drew db001, keepC (Below.refl _ _).drew db010, keepF (Below.refl _ _).drew db010 gb010, keepC (Below.refl _ _).drew db011, keepF (Below.refl _ _).drew db011 gb011, keepC (Below.refl _ _).drew db020, keepF (Below.refl _ _).drew db020 gb020, keepC (Below.refl _ _).drew db021, keepF (Below.refl _ _).drew db021 gb021, h_r0.keep (Below.refl _ _).drew, h_r1.keep (Below.refl _ _).drew, h_r2.keep (Below.refl _ _).drew⟩
    clear hs hG db000 db001 db010 gb010 db011 gb011 db020 gb020 db021 gb021 h_r0 h_r1 h_r2
    simp only [List.take_succ_cons, List.take_zero, List.drop_succ_cons, List.drop_zero]
    refine Reg.wpS7_val (fun wq hq => ?gs2x0) ?ks2x0
    case gs2x0 => (obtain ⟨hs, hG, db000, db001, db010, gb010, db011, gb011, db020, gb020, db021, gb021, h_r0, h_r1, h_r2⟩ := hq.out; go_simp; first | done | (with_reducible rfl) | rfl)
    try simp only [Act.put, List.setIfInBounds_toArray, List.set_cons_zero, List.set_cons_succ]
    refine Reg.wpS7_val (fun wq hq => ?gs2x1) ?ks2x1
    case gs2x1 => (obtain ⟨hs, hG, db000, db001, db010, gb010, db011, gb011, db020, gb020, db021, gb021, h_r0, h_r1, h_r2⟩ := hq.out; go_simp; first | done | (with_reducible rfl) | rfl)
    try simp only [Act.put, List.setIfInBounds_toArray, List.set_cons_zero, List.set_cons_succ]
    refine Reg.wpS7_step (fun wq hq => ?gs2x2) ?ks2x2
    case gs2x2 =>
      obtain ⟨hs, hG, db000, db001, db010, gb010, db011, gb011, db020, gb020, db021, gb021, h_r0, h_r1, h_r2⟩ := hq.out
      refine Reg.sAt7_call (f := 77) (args := #[.pointer (some ⟨bs, 0, none⟩), .int .i64 p]) (by go_simp) ?_
      refine (badField_any _ B bs v _ hs).mono ?_
      rintro e w' ⟨⟨q0, rfl⟩, hs', hG'⟩
      replace h_r0 := h_r0.grown hG' (by omega)
      replace h_r1 := h_r1.grown hG' (by omega)
      replace h_r2 := h_r2.grown hG' (by omega)
      replace gb010 := frozenG hG' db010 (by dsimp only <;> omega) gb010
      replace gb011 := frozenG hG' db011 (by dsimp only <;> omega) gb011
      replace gb020 := frozenG hG' db020 (by dsimp only <;> omega) gb020
      replace gb021 := frozenG hG' db021 (by dsimp only <;> omega) gb021
      replace db000 := cellG hG' db000 (by dsimp only <;> omega)
      replace db001 := cellG hG' db001 (by dsimp only <;> omega)
      replace db010 := cellG hG' db010 (by dsimp only <;> omega)
      replace db011 := cellG hG' db011 (by dsimp only <;> omega)
      replace db020 := cellG hG' db020 (by dsimp only <;> omega)
      replace db021 := cellG hG' db021 (by dsimp only <;> omega)
      replace hs := hs'
      replace hG := grownBy_trans hG hG'
      clear hs' hG'
      exact ⟨_, rfl, ⟨_, rfl⟩, hid ⟨hs, hG, db000, db001, db010, gb010, db011, gb011, db020, gb020, db021, gb021, h_r0, h_r1, h_r2⟩⟩
    rintro _ ⟨uf, rfl⟩
    try simp only [Act.put, List.setIfInBounds_toArray, List.set_cons_zero, List.set_cons_succ]
    refine Reg.wpS7_val (fun wq hq => ?gs2x3) ?ks2x3
    case gs2x3 => (obtain ⟨hs, hG, db000, db001, db010, gb010, db011, gb011, db020, gb020, db021, gb021, h_r0, h_r1, h_r2⟩ := hq.out; go_simp; first | done | (with_reducible rfl) | rfl)
    try simp only [Act.put, List.setIfInBounds_toArray, List.set_cons_zero, List.set_cons_succ]
    refine Reg.wpS7_val (fun wq hq => ?gs2x4) ?ks2x4
    case gs2x4 => (obtain ⟨hs, hG, db000, db001, db010, gb010, db011, gb011, db020, gb020, db021, gb021, h_r0, h_r1, h_r2⟩ := hq.out; go_simp; first | done | (with_reducible rfl) | rfl)
    try simp only [Act.put, List.setIfInBounds_toArray, List.set_cons_zero, List.set_cons_succ]
    refine Reg.wpS7_val (fun wq hq => ?gs2x5) ?ks2x5
    case gs2x5 => (obtain ⟨hs, hG, db000, db001, db010, gb010, db011, gb011, db020, gb020, db021, gb021, h_r0, h_r1, h_r2⟩ := hq.out; go_simp; first | done | (with_reducible rfl) | rfl)
    try simp only [Act.put, List.setIfInBounds_toArray, List.set_cons_zero, List.set_cons_succ]
    refine Reg.wpS7_step (fun wq hq => ?gs2x6) ?ks2x6
    case gs2x6 =>
      obtain ⟨hs, hG, db000, db001, db010, gb010, db011, gb011, db020, gb020, db021, gb021, h_r0, h_r1, h_r2⟩ := hq.out
      refine Reg.sAt7_call (f := 86) (args := #[.pointer (some ⟨bs, 0, none⟩), .int .i64 p, .agg #[.int .i64 ax, .int .i64 ay]]) (by go_simp) ?_
      refine (badPoint_any _ _ _ B bs v _ hs).mono ?_
      rintro e w' ⟨⟨q0, q1, rfl⟩, hs', hG'⟩
      replace h_r0 := h_r0.grown hG' (by omega)
      replace h_r1 := h_r1.grown hG' (by omega)
      replace h_r2 := h_r2.grown hG' (by omega)
      replace gb010 := frozenG hG' db010 (by dsimp only <;> omega) gb010
      replace gb011 := frozenG hG' db011 (by dsimp only <;> omega) gb011
      replace gb020 := frozenG hG' db020 (by dsimp only <;> omega) gb020
      replace gb021 := frozenG hG' db021 (by dsimp only <;> omega) gb021
      replace db000 := cellG hG' db000 (by dsimp only <;> omega)
      replace db001 := cellG hG' db001 (by dsimp only <;> omega)
      replace db010 := cellG hG' db010 (by dsimp only <;> omega)
      replace db011 := cellG hG' db011 (by dsimp only <;> omega)
      replace db020 := cellG hG' db020 (by dsimp only <;> omega)
      replace db021 := cellG hG' db021 (by dsimp only <;> omega)
      replace hs := hs'
      replace hG := grownBy_trans hG hG'
      clear hs' hG'
      exact ⟨_, rfl, ⟨_, _, rfl⟩, hid ⟨hs, hG, db000, db001, db010, gb010, db011, gb011, db020, gb020, db021, gb021, h_r0, h_r1, h_r2⟩⟩
    rintro _ ⟨ux, uy, rfl⟩
    try simp only [Act.put, List.setIfInBounds_toArray, List.set_cons_zero, List.set_cons_succ]
    refine Reg.wpS7_val (fun wq hq => ?gs2x7) ?ks2x7
    case gs2x7 => (obtain ⟨hs, hG, db000, db001, db010, gb010, db011, gb011, db020, gb020, db021, gb021, h_r0, h_r1, h_r2⟩ := hq.out; go_simp; first | done | (with_reducible rfl) | rfl)
    try simp only [Act.put, List.setIfInBounds_toArray, List.set_cons_zero, List.set_cons_succ]
    refine Reg.wpS7_val (fun wq hq => ?gs2x8) ?ks2x8
    case gs2x8 => (obtain ⟨hs, hG, db000, db001, db010, gb010, db011, gb011, db020, gb020, db021, gb021, h_r0, h_r1, h_r2⟩ := hq.out; go_simp; first | done | (with_reducible rfl) | rfl)
    try simp only [Act.put, List.setIfInBounds_toArray, List.set_cons_zero, List.set_cons_succ]
    refine Reg.wpS7_val (fun wq hq => ?gs2x9) ?ks2x9
    case gs2x9 => (obtain ⟨hs, hG, db000, db001, db010, gb010, db011, gb011, db020, gb020, db021, gb021, h_r0, h_r1, h_r2⟩ := hq.out; go_simp; first | done | (with_reducible rfl) | rfl)
    try simp only [Act.put, List.setIfInBounds_toArray, List.set_cons_zero, List.set_cons_succ]
    refine Reg.wpS7_step (fun wq hq => ?gs2x10) ?ks2x10
    case gs2x10 =>
      obtain ⟨hs, hG, db000, db001, db010, gb010, db011, gb011, db020, gb020, db021, gb021, h_r0, h_r1, h_r2⟩ := hq.out
      refine Reg.sAt7_call (f := 86) (args := #[.pointer (some ⟨bs, 0, none⟩), .int .i64 p, .agg #[.int .i64 bx, .int .i64 by_]]) (by go_simp) ?_
      refine (badPoint_any _ _ _ B bs v _ hs).mono ?_
      rintro e w' ⟨⟨q0, q1, rfl⟩, hs', hG'⟩
      replace h_r0 := h_r0.grown hG' (by omega)
      replace h_r1 := h_r1.grown hG' (by omega)
      replace h_r2 := h_r2.grown hG' (by omega)
      replace gb010 := frozenG hG' db010 (by dsimp only <;> omega) gb010
      replace gb011 := frozenG hG' db011 (by dsimp only <;> omega) gb011
      replace gb020 := frozenG hG' db020 (by dsimp only <;> omega) gb020
      replace gb021 := frozenG hG' db021 (by dsimp only <;> omega) gb021
      replace db000 := cellG hG' db000 (by dsimp only <;> omega)
      replace db001 := cellG hG' db001 (by dsimp only <;> omega)
      replace db010 := cellG hG' db010 (by dsimp only <;> omega)
      replace db011 := cellG hG' db011 (by dsimp only <;> omega)
      replace db020 := cellG hG' db020 (by dsimp only <;> omega)
      replace db021 := cellG hG' db021 (by dsimp only <;> omega)
      replace hs := hs'
      replace hG := grownBy_trans hG hG'
      clear hs' hG'
      exact ⟨_, rfl, ⟨_, _, rfl⟩, hid ⟨hs, hG, db000, db001, db010, gb010, db011, gb011, db020, gb020, db021, gb021, h_r0, h_r1, h_r2⟩⟩
    rintro _ ⟨vx, vy, rfl⟩
    try simp only [Act.put, List.setIfInBounds_toArray, List.set_cons_zero, List.set_cons_succ]
    refine Reg.wpS7_val (fun wq hq => ?gs2x11) ?ks2x11
    case gs2x11 => (obtain ⟨hs, hG, db000, db001, db010, gb010, db011, gb011, db020, gb020, db021, gb021, h_r0, h_r1, h_r2⟩ := hq.out; go_simp; first | done | (with_reducible rfl) | rfl)
    try simp only [Act.put, List.setIfInBounds_toArray, List.set_cons_zero, List.set_cons_succ]
    refine Reg.wpS7_val (fun wq hq => ?gs2x12) ?ks2x12
    case gs2x12 => (obtain ⟨hs, hG, db000, db001, db010, gb010, db011, gb011, db020, gb020, db021, gb021, h_r0, h_r1, h_r2⟩ := hq.out; go_simp; first | done | (with_reducible rfl) | rfl)
    try simp only [Act.put, List.setIfInBounds_toArray, List.set_cons_zero, List.set_cons_succ]
    refine Reg.wpS7_val (fun wq hq => ?gs2x13) ?ks2x13
    case gs2x13 => (obtain ⟨hs, hG, db000, db001, db010, gb010, db011, gb011, db020, gb020, db021, gb021, h_r0, h_r1, h_r2⟩ := hq.out; go_simp; first | done | (with_reducible rfl) | rfl)
    try simp only [Act.put, List.setIfInBounds_toArray, List.set_cons_zero, List.set_cons_succ]
    refine Reg.wpS7_step (fun wq hq => ?gs2x14) ?ks2x14
    case gs2x14 =>
      obtain ⟨hs, hG, db000, db001, db010, gb010, db011, gb011, db020, gb020, db021, gb021, h_r0, h_r1, h_r2⟩ := hq.out
      refine Reg.sAt7_call (f := 86) (args := #[.pointer (some ⟨bs, 0, none⟩), .int .i64 p, .agg #[.int .i64 ex, .int .i64 ey]]) (by go_simp) ?_
      refine (badPoint_any _ _ _ B bs v _ hs).mono ?_
      rintro e w' ⟨⟨q0, q1, rfl⟩, hs', hG'⟩
      replace h_r0 := h_r0.grown hG' (by omega)
      replace h_r1 := h_r1.grown hG' (by omega)
      replace h_r2 := h_r2.grown hG' (by omega)
      replace gb010 := frozenG hG' db010 (by dsimp only <;> omega) gb010
      replace gb011 := frozenG hG' db011 (by dsimp only <;> omega) gb011
      replace gb020 := frozenG hG' db020 (by dsimp only <;> omega) gb020
      replace gb021 := frozenG hG' db021 (by dsimp only <;> omega) gb021
      replace db000 := cellG hG' db000 (by dsimp only <;> omega)
      replace db001 := cellG hG' db001 (by dsimp only <;> omega)
      replace db010 := cellG hG' db010 (by dsimp only <;> omega)
      replace db011 := cellG hG' db011 (by dsimp only <;> omega)
      replace db020 := cellG hG' db020 (by dsimp only <;> omega)
      replace db021 := cellG hG' db021 (by dsimp only <;> omega)
      replace hs := hs'
      replace hG := grownBy_trans hG hG'
      clear hs' hG'
      exact ⟨_, rfl, ⟨_, _, rfl⟩, hid ⟨hs, hG, db000, db001, db010, gb010, db011, gb011, db020, gb020, db021, gb021, h_r0, h_r1, h_r2⟩⟩
    rintro _ ⟨xx, xy, rfl⟩
    try simp only [Act.put, List.setIfInBounds_toArray, List.set_cons_zero, List.set_cons_succ]
    refine Reg.wpS7_step (fun wq hq => ?gs2x15) ?ks2x15
    case gs2x15 => exact Reg.sAt7_val (v := .int .i64 uf) (by go_simp; first | done | rfl) ⟨_, rfl⟩ hq
    rintro _ ⟨uf2, rfl⟩
    try simp only [Act.put, List.setIfInBounds_toArray, List.set_cons_zero, List.set_cons_succ]
    refine Reg.wpS7_skip rfl (fun wq hq => ?gs2x16) ?ks2x16
    case gs2x16 =>
      obtain ⟨hs, hG, db000, db001, db010, gb010, db011, gb011, db020, gb020, db021, gb021, h_r0, h_r1, h_r2⟩ := hq.out
      have hres := h_r0
      obtain ⟨_, ⟨x0, cc0⟩, ⟨x1, cc1⟩, hz⟩ := h_r0
      have ff0 := hz 0 (by omega)
      have ff1 := hz 1 (by omega)
      exact ⟨put2 wq (w.heap.size) (ux) (uy), by unfold put2; go_simp, hid ⟨hs.put (put2_heap _ _ _ _) (put2_size _ _ _ _) (by omega) (by omega), grown_put2 hG (by omega) _ _, cellP (put2_heap _ _ _ _) db000 (by dsimp only <;> omega), cellP (put2_heap _ _ _ _) db001 (by dsimp only <;> omega), cellP (put2_heap _ _ _ _) db010 (by dsimp only <;> omega), frozenP (put2_heap _ _ _ _) gb010 (by dsimp only <;> omega), cellP (put2_heap _ _ _ _) db011 (by dsimp only <;> omega), frozenP (put2_heap _ _ _ _) gb011 (by dsimp only <;> omega), cellP (put2_heap _ _ _ _) db020 (by dsimp only <;> omega), frozenP (put2_heap _ _ _ _) gb020 (by dsimp only <;> omega), cellP (put2_heap _ _ _ _) db021 (by dsimp only <;> omega), frozenP (put2_heap _ _ _ _) gb021 (by dsimp only <;> omega), hres.put _ _, h_r1.heap (by rw [put2_size]; exact Nat.le_refl _) (put2_heap _ _ _ _ _ (by omega)), h_r2.heap (by rw [put2_size]; exact Nat.le_refl _) (put2_heap _ _ _ _ _ (by omega))⟩⟩
    try simp only [Act.put, List.setIfInBounds_toArray, List.set_cons_zero, List.set_cons_succ]
    refine Reg.wpS7_skip rfl (fun wq hq => ?gs2x17) ?ks2x17
    case gs2x17 =>
      obtain ⟨hs, hG, db000, db001, db010, gb010, db011, gb011, db020, gb020, db021, gb021, h_r0, h_r1, h_r2⟩ := hq.out
      have hres := h_r1
      obtain ⟨_, ⟨x0, cc0⟩, ⟨x1, cc1⟩, hz⟩ := h_r1
      have ff0 := hz 0 (by omega)
      have ff1 := hz 1 (by omega)
      exact ⟨put2 wq (w.heap.size + 1) (vx) (vy), by unfold put2; go_simp, hid ⟨hs.put (put2_heap _ _ _ _) (put2_size _ _ _ _) (by omega) (by omega), grown_put2 hG (by omega) _ _, cellP (put2_heap _ _ _ _) db000 (by dsimp only <;> omega), cellP (put2_heap _ _ _ _) db001 (by dsimp only <;> omega), cellP (put2_heap _ _ _ _) db010 (by dsimp only <;> omega), frozenP (put2_heap _ _ _ _) gb010 (by dsimp only <;> omega), cellP (put2_heap _ _ _ _) db011 (by dsimp only <;> omega), frozenP (put2_heap _ _ _ _) gb011 (by dsimp only <;> omega), cellP (put2_heap _ _ _ _) db020 (by dsimp only <;> omega), frozenP (put2_heap _ _ _ _) gb020 (by dsimp only <;> omega), cellP (put2_heap _ _ _ _) db021 (by dsimp only <;> omega), frozenP (put2_heap _ _ _ _) gb021 (by dsimp only <;> omega), h_r0.heap (by rw [put2_size]; exact Nat.le_refl _) (put2_heap _ _ _ _ _ (by omega)), hres.put _ _, h_r2.heap (by rw [put2_size]; exact Nat.le_refl _) (put2_heap _ _ _ _ _ (by omega))⟩⟩
    try simp only [Act.put, List.setIfInBounds_toArray, List.set_cons_zero, List.set_cons_succ]
    refine Reg.wpS7_skip rfl (fun wq hq => ?gs2x18) ?ks2x18
    case gs2x18 =>
      obtain ⟨hs, hG, db000, db001, db010, gb010, db011, gb011, db020, gb020, db021, gb021, h_r0, h_r1, h_r2⟩ := hq.out
      have hres := h_r2
      obtain ⟨_, ⟨x0, cc0⟩, ⟨x1, cc1⟩, hz⟩ := h_r2
      have ff0 := hz 0 (by omega)
      have ff1 := hz 1 (by omega)
      exact ⟨put2 wq (w.heap.size + 1 + 1) (xx) (xy), by unfold put2; go_simp, hid ⟨hs.put (put2_heap _ _ _ _) (put2_size _ _ _ _) (by omega) (by omega), grown_put2 hG (by omega) _ _, cellP (put2_heap _ _ _ _) db000 (by dsimp only <;> omega), cellP (put2_heap _ _ _ _) db001 (by dsimp only <;> omega), cellP (put2_heap _ _ _ _) db010 (by dsimp only <;> omega), frozenP (put2_heap _ _ _ _) gb010 (by dsimp only <;> omega), cellP (put2_heap _ _ _ _) db011 (by dsimp only <;> omega), frozenP (put2_heap _ _ _ _) gb011 (by dsimp only <;> omega), cellP (put2_heap _ _ _ _) db020 (by dsimp only <;> omega), frozenP (put2_heap _ _ _ _) gb020 (by dsimp only <;> omega), cellP (put2_heap _ _ _ _) db021 (by dsimp only <;> omega), frozenP (put2_heap _ _ _ _) gb021 (by dsimp only <;> omega), h_r0.heap (by rw [put2_size]; exact Nat.le_refl _) (put2_heap _ _ _ _ _ (by omega)), h_r1.heap (by rw [put2_size]; exact Nat.le_refl _) (put2_heap _ _ _ _ _ (by omega)), hres.put _ _⟩⟩
    try simp only [Act.put, List.setIfInBounds_toArray, List.set_cons_zero, List.set_cons_succ]
    intro w2 hq
    obtain ⟨hs, hG, db000, db001, db010, gb010, db011, gb011, db020, gb020, db021, gb021, h_r0, h_r1, h_r2⟩ := hq.out
    clear hq
    change wpList _ _ _ _ _ _
    obtain ⟨_, ⟨x00, cr00⟩, ⟨x01, cr01⟩, _⟩ := h_r0
    obtain ⟨_, ⟨x10, cr10⟩, ⟨x11, cr11⟩, _⟩ := h_r1
    obtain ⟨_, ⟨x20, cr20⟩, ⟨x21, cr21⟩, _⟩ := h_r2
    go_wp2_with fail
    try simp only [Exit.inBlock, Exit.then]
    refine bodyPost_ret (by simp [results, Tryz.results49, go_sem, cr00, cr01, cr10, cr11, cr20, cr21]; try rfl) rfl ?_
    exact ⟨⟨_, _, _, _, _, _, _, rfl⟩, by have hBf := below_grown (Below.refl w.heap.size w) hG (by omega) (by omega); first | exact hBf | (rw [hbs]; exact hBf) | go_grown⟩
  · by_cases hz1 : q = 1
    · subst hz1
      have f1n := Int.emod_nonneg (bx - ax) (show p ≠ 0 by omega)
      have f1l := Int.emod_lt_of_pos (bx - ax) (show 0 < p by omega)
      have f2n := Int.emod_nonneg (by_ - ay) (show p ≠ 0 by omega)
      have f2l := Int.emod_lt_of_pos (by_ - ay) (show 0 < p by omega)
      go_wp2_with fail
      refine Reg.wp_region_steps (by kernel_rfl) 12 (by kernel_rfl) (fun wq => Hid (Src wq B bs v ∧ w.grownBy wq (some bs) ∧ wq.cell? ⟨w.heap.size, 0, none⟩ = some (.int .i64 0) ∧ wq.frozen? ⟨w.heap.size, 0, none⟩ = false ∧ wq.cell? ⟨w.heap.size, 1, none⟩ = some (.int .i64 0) ∧ wq.frozen? ⟨w.heap.size, 1, none⟩ = false ∧ wq.cell? ⟨w.heap.size + 1, 0, none⟩ = some (.int .i64 0) ∧ wq.frozen? ⟨w.heap.size + 1, 0, none⟩ = false ∧ wq.cell? ⟨w.heap.size + 1, 1, none⟩ = some (.int .i64 0) ∧ wq.frozen? ⟨w.heap.size + 1, 1, none⟩ = false ∧ wq.cell? ⟨w.heap.size + 1 + 1, 0, none⟩ = some (.int .i64 0) ∧ wq.frozen? ⟨w.heap.size + 1 + 1, 0, none⟩ = false ∧ wq.cell? ⟨w.heap.size + 1 + 1, 1, none⟩ = some (.int .i64 0) ∧ wq.frozen? ⟨w.heap.size + 1 + 1, 1, none⟩ = false ∧ wq.cell? ⟨r_0, 0, none⟩ = some (.int .i64 ax) ∧ wq.cell? ⟨r_0, 1, none⟩ = some (.int .i64 ay) ∧ wq.cell? ⟨r_0 + 1, 0, none⟩ = some (.int .i64 bx) ∧ wq.frozen? ⟨r_0 + 1, 0, none⟩ = false ∧ wq.cell? ⟨r_0 + 1, 1, none⟩ = some (.int .i64 by_) ∧ wq.frozen? ⟨r_0 + 1, 1, none⟩ = false ∧ wq.cell? ⟨r_0 + 1 + 1, 0, none⟩ = some (.int .i64 cx) ∧ wq.frozen? ⟨r_0 + 1 + 1, 0, none⟩ = false ∧ wq.cell? ⟨r_0 + 1 + 1, 1, none⟩ = some (.int .i64 cy) ∧ wq.frozen? ⟨r_0 + 1 + 1, 1, none⟩ = false)) [(fun v => v = .int .i64 p), (fun v => v = .agg #[.int .i64 ax, .int .i64 ay]), (fun v => v = .int .i64 p), (fun v => v = .pointer (some ⟨bs, 0, none⟩)), (fun v => v = .int .i64 p), (IsN p), (fun v => v = .int .i64 p), (fun v => v = .agg #[.int .i64 bx, .int .i64 by_]), (fun v => v = .agg #[.int .i64 ax, .int .i64 ay]), (fun v => v = .agg #[.int .i64 ((bx - ax) % p), .int .i64 ((by_ - ay) % p)]), (IsPt p), (IsPt p)] (Reg.inh_cons ⟨_, rfl⟩ (Reg.inh_cons ⟨_, rfl⟩ (Reg.inh_cons ⟨_, rfl⟩ (Reg.inh_cons ⟨_, rfl⟩ (Reg.inh_cons ⟨_, rfl⟩ (Reg.inh_cons ⟨.int .i64 0, 0, rfl, by omega, by omega⟩ (Reg.inh_cons ⟨_, rfl⟩ (Reg.inh_cons ⟨_, rfl⟩ (Reg.inh_cons ⟨_, rfl⟩ (Reg.inh_cons ⟨_, rfl⟩ (Reg.inh_cons ⟨.agg #[.int .i64 0, .int .i64 0], 0, 0, rfl, by omega, by omega, by omega, by omega⟩ (Reg.inh_cons ⟨.agg #[.int .i64 0, .int .i64 0], 0, 0, rfl, by omega, by omega, by omega, by omega⟩ (Reg.inh_nil))))))))))))) ?_ ?_
      · exact hid ⟨hs.drew, grownBy_drew hG, keepC (Below.refl _ _).drew dr00, keepF (Below.refl _ _).drew dr00 gr00, keepC (Below.refl _ _).drew dr01, keepF (Below.refl _ _).drew dr01 gr01, keepC (Below.refl _ _).drew dr10, keepF (Below.refl _ _).drew dr10 gr10, keepC (Below.refl _ _).drew dr11, keepF (Below.refl _ _).drew dr11 gr11, keepC (Below.refl _ _).drew dr20, keepF (Below.refl _ _).drew dr20 gr20, keepC (Below.refl _ _).drew dr21, keepF (Below.refl _ _).drew dr21 gr21, keepC (Below.refl _ _).drew db000, keepC (Below.refl _ _).drew db001, keepC (Below.refl _ _).drew db010, keepF (Below.refl _ _).drew db010 gb010, keepC (Below.refl _ _).drew db011, keepF (Below.refl _ _).drew db011 gb011, keepC (Below.refl _ _).drew db020, keepF (Below.refl _ _).drew db020 gb020, keepC (Below.refl _ _).drew db021, keepF (Below.refl _ _).drew db021 gb021⟩
      clear hs hG dr00 gr00 dr01 gr01 dr10 gr10 dr11 gr11 dr20 gr20 dr21 gr21 db000 db001 db010 gb010 db011 gb011 db020 gb020 db021 gb021
      simp only [List.take_succ_cons, List.take_zero, List.drop_succ_cons, List.drop_zero]
      refine Reg.wpSq_val (fun wq hq => ?gs3x0) ?ks3x0
      case gs3x0 => (obtain ⟨hs, hG, dr00, gr00, dr01, gr01, dr10, gr10, dr11, gr11, dr20, gr20, dr21, gr21, db000, db001, db010, gb010, db011, gb011, db020, gb020, db021, gb021⟩ := hq.out; go_simp; first | done | (with_reducible rfl) | rfl)
      try simp only [Act.put, List.setIfInBounds_toArray, List.set_cons_zero, List.set_cons_succ]
      refine Reg.wpSq_val (fun wq hq => ?gs3x1) ?ks3x1
      case gs3x1 => (obtain ⟨hs, hG, dr00, gr00, dr01, gr01, dr10, gr10, dr11, gr11, dr20, gr20, dr21, gr21, db000, db001, db010, gb010, db011, gb011, db020, gb020, db021, gb021⟩ := hq.out; go_simp; first | done | (with_reducible rfl) | rfl)
      try simp only [Act.put, List.setIfInBounds_toArray, List.set_cons_zero, List.set_cons_succ]
      refine Reg.wpSq_val (fun wq hq => ?gs3x2) ?ks3x2
      case gs3x2 => (obtain ⟨hs, hG, dr00, gr00, dr01, gr01, dr10, gr10, dr11, gr11, dr20, gr20, dr21, gr21, db000, db001, db010, gb010, db011, gb011, db020, gb020, db021, gb021⟩ := hq.out; go_simp; first | done | (with_reducible rfl) | rfl)
      try simp only [Act.put, List.setIfInBounds_toArray, List.set_cons_zero, List.set_cons_succ]
      refine Reg.wpSq_val (fun wq hq => ?gs3x3) ?ks3x3
      case gs3x3 => (obtain ⟨hs, hG, dr00, gr00, dr01, gr01, dr10, gr10, dr11, gr11, dr20, gr20, dr21, gr21, db000, db001, db010, gb010, db011, gb011, db020, gb020, db021, gb021⟩ := hq.out; go_simp; first | done | (with_reducible rfl) | rfl)
      try simp only [Act.put, List.setIfInBounds_toArray, List.set_cons_zero, List.set_cons_succ]
      refine Reg.wpSq_val (fun wq hq => ?gs3x4) ?ks3x4
      case gs3x4 => (obtain ⟨hs, hG, dr00, gr00, dr01, gr01, dr10, gr10, dr11, gr11, dr20, gr20, dr21, gr21, db000, db001, db010, gb010, db011, gb011, db020, gb020, db021, gb021⟩ := hq.out; go_simp; first | done | (with_reducible rfl) | rfl)
      try simp only [Act.put, List.setIfInBounds_toArray, List.set_cons_zero, List.set_cons_succ]
      refine Reg.wpSq_step (fun wq hq => ?gs3x5) ?ks3x5
      case gs3x5 =>
        obtain ⟨hs, hG, dr00, gr00, dr01, gr01, dr10, gr10, dr11, gr11, dr20, gr20, dr21, gr21, db000, db001, db010, gb010, db011, gb011, db020, gb020, db021, gb021⟩ := hq.out
        refine Reg.sAt_call (f := 75) (args := #[.pointer (some ⟨bs, 0, none⟩), .int .i64 p]) (by go_simp) ?_
        refine (next_any p B bs v _ hs).mono ?_
        rintro e w' ⟨⟨q9, rfl, hq9, hq8, _⟩, hs', hG'⟩
        replace gr00 := frozenG hG' dr00 (by dsimp only <;> omega) gr00
        replace gr01 := frozenG hG' dr01 (by dsimp only <;> omega) gr01
        replace gr10 := frozenG hG' dr10 (by dsimp only <;> omega) gr10
        replace gr11 := frozenG hG' dr11 (by dsimp only <;> omega) gr11
        replace gr20 := frozenG hG' dr20 (by dsimp only <;> omega) gr20
        replace gr21 := frozenG hG' dr21 (by dsimp only <;> omega) gr21
        replace gb010 := frozenG hG' db010 (by dsimp only <;> omega) gb010
        replace gb011 := frozenG hG' db011 (by dsimp only <;> omega) gb011
        replace gb020 := frozenG hG' db020 (by dsimp only <;> omega) gb020
        replace gb021 := frozenG hG' db021 (by dsimp only <;> omega) gb021
        replace dr00 := cellG hG' dr00 (by dsimp only <;> omega)
        replace dr01 := cellG hG' dr01 (by dsimp only <;> omega)
        replace dr10 := cellG hG' dr10 (by dsimp only <;> omega)
        replace dr11 := cellG hG' dr11 (by dsimp only <;> omega)
        replace dr20 := cellG hG' dr20 (by dsimp only <;> omega)
        replace dr21 := cellG hG' dr21 (by dsimp only <;> omega)
        replace db000 := cellG hG' db000 (by dsimp only <;> omega)
        replace db001 := cellG hG' db001 (by dsimp only <;> omega)
        replace db010 := cellG hG' db010 (by dsimp only <;> omega)
        replace db011 := cellG hG' db011 (by dsimp only <;> omega)
        replace db020 := cellG hG' db020 (by dsimp only <;> omega)
        replace db021 := cellG hG' db021 (by dsimp only <;> omega)
        replace hs := hs'
        replace hG := grownBy_trans hG hG'
        clear hs' hG'
        exact ⟨_, rfl, ⟨_, rfl, hq9, hq8 (by omega)⟩, hid ⟨hs, hG, dr00, gr00, dr01, gr01, dr10, gr10, dr11, gr11, dr20, gr20, dr21, gr21, db000, db001, db010, gb010, db011, gb011, db020, gb020, db021, gb021⟩⟩
      rintro _ ⟨t, rfl, t1, t2⟩
      try simp only [Act.put, List.setIfInBounds_toArray, List.set_cons_zero, List.set_cons_succ]
      refine Reg.wpSq_val (fun wq hq => ?gs3x6) ?ks3x6
      case gs3x6 => (obtain ⟨hs, hG, dr00, gr00, dr01, gr01, dr10, gr10, dr11, gr11, dr20, gr20, dr21, gr21, db000, db001, db010, gb010, db011, gb011, db020, gb020, db021, gb021⟩ := hq.out; go_simp; first | done | (with_reducible rfl) | rfl)
      try simp only [Act.put, List.setIfInBounds_toArray, List.set_cons_zero, List.set_cons_succ]
      refine Reg.wpSq_val (fun wq hq => ?gs3x7) ?ks3x7
      case gs3x7 => (obtain ⟨hs, hG, dr00, gr00, dr01, gr01, dr10, gr10, dr11, gr11, dr20, gr20, dr21, gr21, db000, db001, db010, gb010, db011, gb011, db020, gb020, db021, gb021⟩ := hq.out; go_simp; first | done | (with_reducible rfl) | rfl)
      try simp only [Act.put, List.setIfInBounds_toArray, List.set_cons_zero, List.set_cons_succ]
      refine Reg.wpSq_val (fun wq hq => ?gs3x8) ?ks3x8
      case gs3x8 => (obtain ⟨hs, hG, dr00, gr00, dr01, gr01, dr10, gr10, dr11, gr11, dr20, gr20, dr21, gr21, db000, db001, db010, gb010, db011, gb011, db020, gb020, db021, gb021⟩ := hq.out; go_simp; first | done | (with_reducible rfl) | rfl)
      try simp only [Act.put, List.setIfInBounds_toArray, List.set_cons_zero, List.set_cons_succ]
      refine Reg.wpSq_step (fun wq hq => ?gs3x9) ?ks3x9
      case gs3x9 =>
        obtain ⟨hs, hG, dr00, gr00, dr01, gr01, dr10, gr10, dr11, gr11, dr20, gr20, dr21, gr21, db000, db001, db010, gb010, db011, gb011, db020, gb020, db021, gb021⟩ := hq.out
        refine Reg.sAt_call (f := 55) (args := #[.int .i64 p, .agg #[.int .i64 bx, .int .i64 by_], .agg #[.int .i64 ax, .int .i64 ay]]) (by go_simp) ?_
        refine (l01Minus_any p bx by_ ax ay _ (by omega) (by omega) (by omega) (by omega) (by omega) (by omega) (by omega) (by omega) (by omega) (by omega)).mono ?_
        rintro e w' ⟨rfl, hbn⟩
        replace gr00 := keepF hbn dr00 gr00
        replace gr01 := keepF hbn dr01 gr01
        replace gr10 := keepF hbn dr10 gr10
        replace gr11 := keepF hbn dr11 gr11
        replace gr20 := keepF hbn dr20 gr20
        replace gr21 := keepF hbn dr21 gr21
        replace gb010 := keepF hbn db010 gb010
        replace gb011 := keepF hbn db011 gb011
        replace gb020 := keepF hbn db020 gb020
        replace gb021 := keepF hbn db021 gb021
        replace dr00 := keepC hbn dr00
        replace dr01 := keepC hbn dr01
        replace dr10 := keepC hbn dr10
        replace dr11 := keepC hbn dr11
        replace dr20 := keepC hbn dr20
        replace dr21 := keepC hbn dr21
        replace db000 := keepC hbn db000
        replace db001 := keepC hbn db001
        replace db010 := keepC hbn db010
        replace db011 := keepC hbn db011
        replace db020 := keepC hbn db020
        replace db021 := keepC hbn db021
        replace hs := hs.keep hbn
        replace hG := grownBy_trans hG (grown_below hbn)
        clear hbn
        exact ⟨_, rfl, rfl, hid ⟨hs, hG, dr00, gr00, dr01, gr01, dr10, gr10, dr11, gr11, dr20, gr20, dr21, gr21, db000, db001, db010, gb010, db011, gb011, db020, gb020, db021, gb021⟩⟩
      rintro _ rfl
      try simp only [Act.put, List.setIfInBounds_toArray, List.set_cons_zero, List.set_cons_succ]
      refine Reg.wpSq_step (fun wq hq => ?gs3x10) ?ks3x10
      case gs3x10 =>
        obtain ⟨hs, hG, dr00, gr00, dr01, gr01, dr10, gr10, dr11, gr11, dr20, gr20, dr21, gr21, db000, db001, db010, gb010, db011, gb011, db020, gb020, db021, gb021⟩ := hq.out
        refine Reg.sAt_call (f := 83) (args := #[.int .i64 p, .int .i64 t, .agg #[.int .i64 ((bx - ax) % p), .int .i64 ((by_ - ay) % p)]]) (by go_simp) ?_
        refine (l01Times_any p t _ _ _ (by omega) (by omega) (by omega) (by omega) (by omega) (by omega) (by omega) (by omega)).mono ?_
        rintro e w' ⟨rfl, hbn⟩
        replace gr00 := keepF hbn dr00 gr00
        replace gr01 := keepF hbn dr01 gr01
        replace gr10 := keepF hbn dr10 gr10
        replace gr11 := keepF hbn dr11 gr11
        replace gr20 := keepF hbn dr20 gr20
        replace gr21 := keepF hbn dr21 gr21
        replace gb010 := keepF hbn db010 gb010
        replace gb011 := keepF hbn db011 gb011
        replace gb020 := keepF hbn db020 gb020
        replace gb021 := keepF hbn db021 gb021
        replace dr00 := keepC hbn dr00
        replace dr01 := keepC hbn dr01
        replace dr10 := keepC hbn dr10
        replace dr11 := keepC hbn dr11
        replace dr20 := keepC hbn dr20
        replace dr21 := keepC hbn dr21
        replace db000 := keepC hbn db000
        replace db001 := keepC hbn db001
        replace db010 := keepC hbn db010
        replace db011 := keepC hbn db011
        replace db020 := keepC hbn db020
        replace db021 := keepC hbn db021
        replace hs := hs.keep hbn
        replace hG := grownBy_trans hG (grown_below hbn)
        clear hbn
        exact ⟨_, rfl, ⟨_, _, rfl, Int.emod_nonneg _ (by omega), Int.emod_lt_of_pos _ (by omega), Int.emod_nonneg _ (by omega), Int.emod_lt_of_pos _ (by omega)⟩, hid ⟨hs, hG, dr00, gr00, dr01, gr01, dr10, gr10, dr11, gr11, dr20, gr20, dr21, gr21, db000, db001, db010, gb010, db011, gb011, db020, gb020, db021, gb021⟩⟩
      rintro _ ⟨tx, ty, rfl, tx1, tx2, ty1, ty2⟩
      try simp only [Act.put, List.setIfInBounds_toArray, List.set_cons_zero, List.set_cons_succ]
      refine Reg.wpSq_step (fun wq hq => ?gs3x11) ?ks3x11
      case gs3x11 =>
        obtain ⟨hs, hG, dr00, gr00, dr01, gr01, dr10, gr10, dr11, gr11, dr20, gr20, dr21, gr21, db000, db001, db010, gb010, db011, gb011, db020, gb020, db021, gb021⟩ := hq.out
        refine Reg.sAt_call (f := 82) (args := #[.int .i64 p, .agg #[.int .i64 ax, .int .i64 ay], .agg #[.int .i64 tx, .int .i64 ty]]) (by go_simp) ?_
        refine (l01Plus_any p ax ay tx ty _ (by omega) (by omega) (by omega) (by omega) (by omega) (by omega) (by omega) (by omega) (by omega) (by omega)).mono ?_
        rintro e w' ⟨rfl, hbn⟩
        replace gr00 := keepF hbn dr00 gr00
        replace gr01 := keepF hbn dr01 gr01
        replace gr10 := keepF hbn dr10 gr10
        replace gr11 := keepF hbn dr11 gr11
        replace gr20 := keepF hbn dr20 gr20
        replace gr21 := keepF hbn dr21 gr21
        replace gb010 := keepF hbn db010 gb010
        replace gb011 := keepF hbn db011 gb011
        replace gb020 := keepF hbn db020 gb020
        replace gb021 := keepF hbn db021 gb021
        replace dr00 := keepC hbn dr00
        replace dr01 := keepC hbn dr01
        replace dr10 := keepC hbn dr10
        replace dr11 := keepC hbn dr11
        replace dr20 := keepC hbn dr20
        replace dr21 := keepC hbn dr21
        replace db000 := keepC hbn db000
        replace db001 := keepC hbn db001
        replace db010 := keepC hbn db010
        replace db011 := keepC hbn db011
        replace db020 := keepC hbn db020
        replace db021 := keepC hbn db021
        replace hs := hs.keep hbn
        replace hG := grownBy_trans hG (grown_below hbn)
        clear hbn
        exact ⟨_, rfl, ⟨_, _, rfl, Int.emod_nonneg _ (by omega), Int.emod_lt_of_pos _ (by omega), Int.emod_nonneg _ (by omega), Int.emod_lt_of_pos _ (by omega)⟩, hid ⟨hs, hG, dr00, gr00, dr01, gr01, dr10, gr10, dr11, gr11, dr20, gr20, dr21, gr21, db000, db001, db010, gb010, db011, gb011, db020, gb020, db021, gb021⟩⟩
      rintro _ ⟨ex, ey, rfl, ex1, ex2, ey1, ey2⟩
      try simp only [Act.put, List.setIfInBounds_toArray, List.set_cons_zero, List.set_cons_succ]
      intro w2 hq
      obtain ⟨hs, hG, dr00, gr00, dr01, gr01, dr10, gr10, dr11, gr11, dr20, gr20, dr21, gr21, db000, db001, db010, gb010, db011, gb011, db020, gb020, db021, gb021⟩ := hq.out
      clear hq
      change wpList _ _ _ _ _ _
      go_wp2_with fail
      generalize hW : (World.setCell (World.setCell w2 ⟨r_0 + 1 + 1, 0, none⟩ (.int .i64 ex)) ⟨r_0 + 1 + 1, 1, none⟩ (.int .i64 ey)) = W4
      have hP : ∀ k, k ≠ r_0 + 1 + 1 → W4.heap[k]? = w2.heap[k]? := by subst hW; exact put2_heap _ _ _ _
      have hZ : W4.heap.size = w2.heap.size := by subst hW; exact put2_size _ _ _ _
      have ndb020 : W4.cell? ⟨r_0 + 1 + 1, 0, none⟩ = some (.int .i64 ex) := by subst hW; simp [World.cell?_setCell_other, World.cell?_setCell_same, db020, db021]
      have ndb021 : W4.cell? ⟨r_0 + 1 + 1, 1, none⟩ = some (.int .i64 ey) := by subst hW; simp [World.cell?_setCell_other, World.cell?_setCell_same, db020, db021]
      have ngb020 : W4.frozen? ⟨r_0 + 1 + 1, 0, none⟩ = false := by subst hW; simp [gb020]
      have ngb021 : W4.frozen? ⟨r_0 + 1 + 1, 1, none⟩ = false := by subst hW; simp [gb021]
      have hG2 : w.grownBy W4 (some bs) := by subst hW; exact grown_put2 hG (by omega) _ _
      replace hs := hs.put hP hZ (by omega) (by omega)
      replace hG := hG2
      clear hG2
      replace dr00 := cellP hP dr00 (by dsimp only <;> omega)
      replace gr00 := frozenP hP gr00 (by dsimp only <;> omega)
      replace dr01 := cellP hP dr01 (by dsimp only <;> omega)
      replace gr01 := frozenP hP gr01 (by dsimp only <;> omega)
      replace dr10 := cellP hP dr10 (by dsimp only <;> omega)
      replace gr10 := frozenP hP gr10 (by dsimp only <;> omega)
      replace dr11 := cellP hP dr11 (by dsimp only <;> omega)
      replace gr11 := frozenP hP gr11 (by dsimp only <;> omega)
      replace dr20 := cellP hP dr20 (by dsimp only <;> omega)
      replace gr20 := frozenP hP gr20 (by dsimp only <;> omega)
      replace dr21 := cellP hP dr21 (by dsimp only <;> omega)
      replace gr21 := frozenP hP gr21 (by dsimp only <;> omega)
      replace db000 := cellP hP db000 (by dsimp only <;> omega)
      replace db001 := cellP hP db001 (by dsimp only <;> omega)
      replace db010 := cellP hP db010 (by dsimp only <;> omega)
      replace gb010 := frozenP hP gb010 (by dsimp only <;> omega)
      replace db011 := cellP hP db011 (by dsimp only <;> omega)
      replace gb011 := frozenP hP gb011 (by dsimp only <;> omega)
      replace db020 := ndb020
      clear ndb020
      replace gb020 := ngb020
      clear ngb020
      replace db021 := ndb021
      clear ndb021
      replace gb021 := ngb021
      clear ngb021
      clear hP hZ hW
      go_wp2_with fail
      have h_r0 : Res2 _ (w.heap.size) := ⟨World.block_lt_of_cell? _ _ dr00, ⟨_, dr00⟩, ⟨_, dr01⟩, fun j hj => by match j, hj with | 0, _ => exact gr00 | 1, _ => exact gr01⟩
      have h_r1 : Res2 _ (w.heap.size + 1) := ⟨World.block_lt_of_cell? _ _ dr10, ⟨_, dr10⟩, ⟨_, dr11⟩, fun j hj => by match j, hj with | 0, _ => exact gr10 | 1, _ => exact gr11⟩
      have h_r2 : Res2 _ (w.heap.size + 1 + 1) := ⟨World.block_lt_of_cell? _ _ dr20, ⟨_, dr20⟩, ⟨_, dr21⟩, fun j hj => by match j, hj with | 0, _ => exact gr20 | 1, _ => exact gr21⟩
      clear dr00 gr00 dr01 gr01 dr10 gr10 dr11 gr11 dr20 gr20 dr21 gr21
      refine Reg.wp_region_steps7 (by kernel_rfl) 19 (by kernel_rfl) (fun wq => Hid (Src wq B bs v ∧ w.grownBy wq (some bs) ∧ wq.cell? ⟨r_0, 0, none⟩ = some (.int .i64 ax) ∧ wq.cell? ⟨r_0, 1, none⟩ = some (.int .i64 ay) ∧ wq.cell? ⟨r_0 + 1, 0, none⟩ = some (.int .i64 bx) ∧ wq.frozen? ⟨r_0 + 1, 0, none⟩ = false ∧ wq.cell? ⟨r_0 + 1, 1, none⟩ = some (.int .i64 by_) ∧ wq.frozen? ⟨r_0 + 1, 1, none⟩ = false ∧ wq.cell? ⟨r_0 + 1 + 1, 0, none⟩ = some (.int .i64 ex) ∧ wq.frozen? ⟨r_0 + 1 + 1, 0, none⟩ = false ∧ wq.cell? ⟨r_0 + 1 + 1, 1, none⟩ = some (.int .i64 ey) ∧ wq.frozen? ⟨r_0 + 1 + 1, 1, none⟩ = false ∧ Res2 wq (w.heap.size) ∧ Res2 wq (w.heap.size + 1) ∧ Res2 wq (w.heap.size + 1 + 1))) [(fun v => v = .pointer (some ⟨bs, 0, none⟩)), (fun v => v = .int .i64 p), IsI, (fun v => v = .pointer (some ⟨bs, 0, none⟩)), (fun v => v = .int .i64 p), (fun v => v = .agg #[.int .i64 ax, .int .i64 ay]), IsP, (fun v => v = .pointer (some ⟨bs, 0, none⟩)), (fun v => v = .int .i64 p), (fun v => v = .agg #[.int .i64 bx, .int .i64 by_]), IsP, (fun v => v = .pointer (some ⟨bs, 0, none⟩)), (fun v => v = .int .i64 p), (fun v => v = .agg #[.int .i64 ex, .int .i64 ey]), IsP, IsI, Reg.anyV, Reg.anyV, Reg.anyV] (Reg.inh_cons ⟨_, rfl⟩ (Reg.inh_cons ⟨_, rfl⟩ (Reg.inh_cons ⟨.int .i64 0, _, rfl⟩ (Reg.inh_cons ⟨_, rfl⟩ (Reg.inh_cons ⟨_, rfl⟩ (Reg.inh_cons ⟨_, rfl⟩ (Reg.inh_cons ⟨.agg #[.int .i64 0, .int .i64 0], _, _, rfl⟩ (Reg.inh_cons ⟨_, rfl⟩ (Reg.inh_cons ⟨_, rfl⟩ (Reg.inh_cons ⟨_, rfl⟩ (Reg.inh_cons ⟨.agg #[.int .i64 0, .int .i64 0], _, _, rfl⟩ (Reg.inh_cons ⟨_, rfl⟩ (Reg.inh_cons ⟨_, rfl⟩ (Reg.inh_cons ⟨_, rfl⟩ (Reg.inh_cons ⟨.agg #[.int .i64 0, .int .i64 0], _, _, rfl⟩ (Reg.inh_cons ⟨.int .i64 0, _, rfl⟩ (Reg.inh_cons ⟨undef, trivial⟩ (Reg.inh_cons ⟨undef, trivial⟩ (Reg.inh_cons ⟨undef, trivial⟩ (Reg.inh_nil)))))))))))))))))))) ?_ ?_
      · exact hid ⟨hs.drew, grownBy_drew hG, keepC (Below.refl _ _).drew db000, keepC (Below.refl _ _).drew db001, keepC (Below.refl _ _).drew db010, keepF (Below.refl _ _).drew db010 gb010, keepC (Below.refl _ _).drew db011, keepF (Below.refl _ _).drew db011 gb011, keepC (Below.refl _ _).drew db020, keepF (Below.refl _ _).drew db020 gb020, keepC (Below.refl _ _).drew db021, keepF (Below.refl _ _).drew db021 gb021, h_r0.keep (Below.refl _ _).drew, h_r1.keep (Below.refl _ _).drew, h_r2.keep (Below.refl _ _).drew⟩
      clear hs hG db000 db001 db010 gb010 db011 gb011 db020 gb020 db021 gb021 h_r0 h_r1 h_r2
      simp only [List.take_succ_cons, List.take_zero, List.drop_succ_cons, List.drop_zero]
      refine Reg.wpS7_val (fun wq hq => ?gs4x0) ?ks4x0
      case gs4x0 => (obtain ⟨hs, hG, db000, db001, db010, gb010, db011, gb011, db020, gb020, db021, gb021, h_r0, h_r1, h_r2⟩ := hq.out; go_simp; first | done | (with_reducible rfl) | rfl)
      try simp only [Act.put, List.setIfInBounds_toArray, List.set_cons_zero, List.set_cons_succ]
      refine Reg.wpS7_val (fun wq hq => ?gs4x1) ?ks4x1
      case gs4x1 => (obtain ⟨hs, hG, db000, db001, db010, gb010, db011, gb011, db020, gb020, db021, gb021, h_r0, h_r1, h_r2⟩ := hq.out; go_simp; first | done | (with_reducible rfl) | rfl)
      try simp only [Act.put, List.setIfInBounds_toArray, List.set_cons_zero, List.set_cons_succ]
      refine Reg.wpS7_step (fun wq hq => ?gs4x2) ?ks4x2
      case gs4x2 =>
        obtain ⟨hs, hG, db000, db001, db010, gb010, db011, gb011, db020, gb020, db021, gb021, h_r0, h_r1, h_r2⟩ := hq.out
        refine Reg.sAt7_call (f := 77) (args := #[.pointer (some ⟨bs, 0, none⟩), .int .i64 p]) (by go_simp) ?_
        refine (badField_any _ B bs v _ hs).mono ?_
        rintro e w' ⟨⟨q0, rfl⟩, hs', hG'⟩
        replace h_r0 := h_r0.grown hG' (by omega)
        replace h_r1 := h_r1.grown hG' (by omega)
        replace h_r2 := h_r2.grown hG' (by omega)
        replace gb010 := frozenG hG' db010 (by dsimp only <;> omega) gb010
        replace gb011 := frozenG hG' db011 (by dsimp only <;> omega) gb011
        replace gb020 := frozenG hG' db020 (by dsimp only <;> omega) gb020
        replace gb021 := frozenG hG' db021 (by dsimp only <;> omega) gb021
        replace db000 := cellG hG' db000 (by dsimp only <;> omega)
        replace db001 := cellG hG' db001 (by dsimp only <;> omega)
        replace db010 := cellG hG' db010 (by dsimp only <;> omega)
        replace db011 := cellG hG' db011 (by dsimp only <;> omega)
        replace db020 := cellG hG' db020 (by dsimp only <;> omega)
        replace db021 := cellG hG' db021 (by dsimp only <;> omega)
        replace hs := hs'
        replace hG := grownBy_trans hG hG'
        clear hs' hG'
        exact ⟨_, rfl, ⟨_, rfl⟩, hid ⟨hs, hG, db000, db001, db010, gb010, db011, gb011, db020, gb020, db021, gb021, h_r0, h_r1, h_r2⟩⟩
      rintro _ ⟨uf, rfl⟩
      try simp only [Act.put, List.setIfInBounds_toArray, List.set_cons_zero, List.set_cons_succ]
      refine Reg.wpS7_val (fun wq hq => ?gs4x3) ?ks4x3
      case gs4x3 => (obtain ⟨hs, hG, db000, db001, db010, gb010, db011, gb011, db020, gb020, db021, gb021, h_r0, h_r1, h_r2⟩ := hq.out; go_simp; first | done | (with_reducible rfl) | rfl)
      try simp only [Act.put, List.setIfInBounds_toArray, List.set_cons_zero, List.set_cons_succ]
      refine Reg.wpS7_val (fun wq hq => ?gs4x4) ?ks4x4
      case gs4x4 => (obtain ⟨hs, hG, db000, db001, db010, gb010, db011, gb011, db020, gb020, db021, gb021, h_r0, h_r1, h_r2⟩ := hq.out; go_simp; first | done | (with_reducible rfl) | rfl)
      try simp only [Act.put, List.setIfInBounds_toArray, List.set_cons_zero, List.set_cons_succ]
      refine Reg.wpS7_val (fun wq hq => ?gs4x5) ?ks4x5
      case gs4x5 => (obtain ⟨hs, hG, db000, db001, db010, gb010, db011, gb011, db020, gb020, db021, gb021, h_r0, h_r1, h_r2⟩ := hq.out; go_simp; first | done | (with_reducible rfl) | rfl)
      try simp only [Act.put, List.setIfInBounds_toArray, List.set_cons_zero, List.set_cons_succ]
      refine Reg.wpS7_step (fun wq hq => ?gs4x6) ?ks4x6
      case gs4x6 =>
        obtain ⟨hs, hG, db000, db001, db010, gb010, db011, gb011, db020, gb020, db021, gb021, h_r0, h_r1, h_r2⟩ := hq.out
        refine Reg.sAt7_call (f := 86) (args := #[.pointer (some ⟨bs, 0, none⟩), .int .i64 p, .agg #[.int .i64 ax, .int .i64 ay]]) (by go_simp) ?_
        refine (badPoint_any _ _ _ B bs v _ hs).mono ?_
        rintro e w' ⟨⟨q0, q1, rfl⟩, hs', hG'⟩
        replace h_r0 := h_r0.grown hG' (by omega)
        replace h_r1 := h_r1.grown hG' (by omega)
        replace h_r2 := h_r2.grown hG' (by omega)
        replace gb010 := frozenG hG' db010 (by dsimp only <;> omega) gb010
        replace gb011 := frozenG hG' db011 (by dsimp only <;> omega) gb011
        replace gb020 := frozenG hG' db020 (by dsimp only <;> omega) gb020
        replace gb021 := frozenG hG' db021 (by dsimp only <;> omega) gb021
        replace db000 := cellG hG' db000 (by dsimp only <;> omega)
        replace db001 := cellG hG' db001 (by dsimp only <;> omega)
        replace db010 := cellG hG' db010 (by dsimp only <;> omega)
        replace db011 := cellG hG' db011 (by dsimp only <;> omega)
        replace db020 := cellG hG' db020 (by dsimp only <;> omega)
        replace db021 := cellG hG' db021 (by dsimp only <;> omega)
        replace hs := hs'
        replace hG := grownBy_trans hG hG'
        clear hs' hG'
        exact ⟨_, rfl, ⟨_, _, rfl⟩, hid ⟨hs, hG, db000, db001, db010, gb010, db011, gb011, db020, gb020, db021, gb021, h_r0, h_r1, h_r2⟩⟩
      rintro _ ⟨ux, uy, rfl⟩
      try simp only [Act.put, List.setIfInBounds_toArray, List.set_cons_zero, List.set_cons_succ]
      refine Reg.wpS7_val (fun wq hq => ?gs4x7) ?ks4x7
      case gs4x7 => (obtain ⟨hs, hG, db000, db001, db010, gb010, db011, gb011, db020, gb020, db021, gb021, h_r0, h_r1, h_r2⟩ := hq.out; go_simp; first | done | (with_reducible rfl) | rfl)
      try simp only [Act.put, List.setIfInBounds_toArray, List.set_cons_zero, List.set_cons_succ]
      refine Reg.wpS7_val (fun wq hq => ?gs4x8) ?ks4x8
      case gs4x8 => (obtain ⟨hs, hG, db000, db001, db010, gb010, db011, gb011, db020, gb020, db021, gb021, h_r0, h_r1, h_r2⟩ := hq.out; go_simp; first | done | (with_reducible rfl) | rfl)
      try simp only [Act.put, List.setIfInBounds_toArray, List.set_cons_zero, List.set_cons_succ]
      refine Reg.wpS7_val (fun wq hq => ?gs4x9) ?ks4x9
      case gs4x9 => (obtain ⟨hs, hG, db000, db001, db010, gb010, db011, gb011, db020, gb020, db021, gb021, h_r0, h_r1, h_r2⟩ := hq.out; go_simp; first | done | (with_reducible rfl) | rfl)
      try simp only [Act.put, List.setIfInBounds_toArray, List.set_cons_zero, List.set_cons_succ]
      refine Reg.wpS7_step (fun wq hq => ?gs4x10) ?ks4x10
      case gs4x10 =>
        obtain ⟨hs, hG, db000, db001, db010, gb010, db011, gb011, db020, gb020, db021, gb021, h_r0, h_r1, h_r2⟩ := hq.out
        refine Reg.sAt7_call (f := 86) (args := #[.pointer (some ⟨bs, 0, none⟩), .int .i64 p, .agg #[.int .i64 bx, .int .i64 by_]]) (by go_simp) ?_
        refine (badPoint_any _ _ _ B bs v _ hs).mono ?_
        rintro e w' ⟨⟨q0, q1, rfl⟩, hs', hG'⟩
        replace h_r0 := h_r0.grown hG' (by omega)
        replace h_r1 := h_r1.grown hG' (by omega)
        replace h_r2 := h_r2.grown hG' (by omega)
        replace gb010 := frozenG hG' db010 (by dsimp only <;> omega) gb010
        replace gb011 := frozenG hG' db011 (by dsimp only <;> omega) gb011
        replace gb020 := frozenG hG' db020 (by dsimp only <;> omega) gb020
        replace gb021 := frozenG hG' db021 (by dsimp only <;> omega) gb021
        replace db000 := cellG hG' db000 (by dsimp only <;> omega)
        replace db001 := cellG hG' db001 (by dsimp only <;> omega)
        replace db010 := cellG hG' db010 (by dsimp only <;> omega)
        replace db011 := cellG hG' db011 (by dsimp only <;> omega)
        replace db020 := cellG hG' db020 (by dsimp only <;> omega)
        replace db021 := cellG hG' db021 (by dsimp only <;> omega)
        replace hs := hs'
        replace hG := grownBy_trans hG hG'
        clear hs' hG'
        exact ⟨_, rfl, ⟨_, _, rfl⟩, hid ⟨hs, hG, db000, db001, db010, gb010, db011, gb011, db020, gb020, db021, gb021, h_r0, h_r1, h_r2⟩⟩
      rintro _ ⟨vx, vy, rfl⟩
      try simp only [Act.put, List.setIfInBounds_toArray, List.set_cons_zero, List.set_cons_succ]
      refine Reg.wpS7_val (fun wq hq => ?gs4x11) ?ks4x11
      case gs4x11 => (obtain ⟨hs, hG, db000, db001, db010, gb010, db011, gb011, db020, gb020, db021, gb021, h_r0, h_r1, h_r2⟩ := hq.out; go_simp; first | done | (with_reducible rfl) | rfl)
      try simp only [Act.put, List.setIfInBounds_toArray, List.set_cons_zero, List.set_cons_succ]
      refine Reg.wpS7_val (fun wq hq => ?gs4x12) ?ks4x12
      case gs4x12 => (obtain ⟨hs, hG, db000, db001, db010, gb010, db011, gb011, db020, gb020, db021, gb021, h_r0, h_r1, h_r2⟩ := hq.out; go_simp; first | done | (with_reducible rfl) | rfl)
      try simp only [Act.put, List.setIfInBounds_toArray, List.set_cons_zero, List.set_cons_succ]
      refine Reg.wpS7_val (fun wq hq => ?gs4x13) ?ks4x13
      case gs4x13 => (obtain ⟨hs, hG, db000, db001, db010, gb010, db011, gb011, db020, gb020, db021, gb021, h_r0, h_r1, h_r2⟩ := hq.out; go_simp; first | done | (with_reducible rfl) | rfl)
      try simp only [Act.put, List.setIfInBounds_toArray, List.set_cons_zero, List.set_cons_succ]
      refine Reg.wpS7_step (fun wq hq => ?gs4x14) ?ks4x14
      case gs4x14 =>
        obtain ⟨hs, hG, db000, db001, db010, gb010, db011, gb011, db020, gb020, db021, gb021, h_r0, h_r1, h_r2⟩ := hq.out
        refine Reg.sAt7_call (f := 86) (args := #[.pointer (some ⟨bs, 0, none⟩), .int .i64 p, .agg #[.int .i64 ex, .int .i64 ey]]) (by go_simp) ?_
        refine (badPoint_any _ _ _ B bs v _ hs).mono ?_
        rintro e w' ⟨⟨q0, q1, rfl⟩, hs', hG'⟩
        replace h_r0 := h_r0.grown hG' (by omega)
        replace h_r1 := h_r1.grown hG' (by omega)
        replace h_r2 := h_r2.grown hG' (by omega)
        replace gb010 := frozenG hG' db010 (by dsimp only <;> omega) gb010
        replace gb011 := frozenG hG' db011 (by dsimp only <;> omega) gb011
        replace gb020 := frozenG hG' db020 (by dsimp only <;> omega) gb020
        replace gb021 := frozenG hG' db021 (by dsimp only <;> omega) gb021
        replace db000 := cellG hG' db000 (by dsimp only <;> omega)
        replace db001 := cellG hG' db001 (by dsimp only <;> omega)
        replace db010 := cellG hG' db010 (by dsimp only <;> omega)
        replace db011 := cellG hG' db011 (by dsimp only <;> omega)
        replace db020 := cellG hG' db020 (by dsimp only <;> omega)
        replace db021 := cellG hG' db021 (by dsimp only <;> omega)
        replace hs := hs'
        replace hG := grownBy_trans hG hG'
        clear hs' hG'
        exact ⟨_, rfl, ⟨_, _, rfl⟩, hid ⟨hs, hG, db000, db001, db010, gb010, db011, gb011, db020, gb020, db021, gb021, h_r0, h_r1, h_r2⟩⟩
      rintro _ ⟨xx, xy, rfl⟩
      try simp only [Act.put, List.setIfInBounds_toArray, List.set_cons_zero, List.set_cons_succ]
      refine Reg.wpS7_step (fun wq hq => ?gs4x15) ?ks4x15
      case gs4x15 => exact Reg.sAt7_val (v := .int .i64 uf) (by go_simp; first | done | rfl) ⟨_, rfl⟩ hq
      rintro _ ⟨uf2, rfl⟩
      try simp only [Act.put, List.setIfInBounds_toArray, List.set_cons_zero, List.set_cons_succ]
      refine Reg.wpS7_skip rfl (fun wq hq => ?gs4x16) ?ks4x16
      case gs4x16 =>
        obtain ⟨hs, hG, db000, db001, db010, gb010, db011, gb011, db020, gb020, db021, gb021, h_r0, h_r1, h_r2⟩ := hq.out
        have hres := h_r0
        obtain ⟨_, ⟨x0, cc0⟩, ⟨x1, cc1⟩, hz⟩ := h_r0
        have ff0 := hz 0 (by omega)
        have ff1 := hz 1 (by omega)
        exact ⟨put2 wq (w.heap.size) (ux) (uy), by unfold put2; go_simp, hid ⟨hs.put (put2_heap _ _ _ _) (put2_size _ _ _ _) (by omega) (by omega), grown_put2 hG (by omega) _ _, cellP (put2_heap _ _ _ _) db000 (by dsimp only <;> omega), cellP (put2_heap _ _ _ _) db001 (by dsimp only <;> omega), cellP (put2_heap _ _ _ _) db010 (by dsimp only <;> omega), frozenP (put2_heap _ _ _ _) gb010 (by dsimp only <;> omega), cellP (put2_heap _ _ _ _) db011 (by dsimp only <;> omega), frozenP (put2_heap _ _ _ _) gb011 (by dsimp only <;> omega), cellP (put2_heap _ _ _ _) db020 (by dsimp only <;> omega), frozenP (put2_heap _ _ _ _) gb020 (by dsimp only <;> omega), cellP (put2_heap _ _ _ _) db021 (by dsimp only <;> omega), frozenP (put2_heap _ _ _ _) gb021 (by dsimp only <;> omega), hres.put _ _, h_r1.heap (by rw [put2_size]; exact Nat.le_refl _) (put2_heap _ _ _ _ _ (by omega)), h_r2.heap (by rw [put2_size]; exact Nat.le_refl _) (put2_heap _ _ _ _ _ (by omega))⟩⟩
      try simp only [Act.put, List.setIfInBounds_toArray, List.set_cons_zero, List.set_cons_succ]
      refine Reg.wpS7_skip rfl (fun wq hq => ?gs4x17) ?ks4x17
      case gs4x17 =>
        obtain ⟨hs, hG, db000, db001, db010, gb010, db011, gb011, db020, gb020, db021, gb021, h_r0, h_r1, h_r2⟩ := hq.out
        have hres := h_r1
        obtain ⟨_, ⟨x0, cc0⟩, ⟨x1, cc1⟩, hz⟩ := h_r1
        have ff0 := hz 0 (by omega)
        have ff1 := hz 1 (by omega)
        exact ⟨put2 wq (w.heap.size + 1) (vx) (vy), by unfold put2; go_simp, hid ⟨hs.put (put2_heap _ _ _ _) (put2_size _ _ _ _) (by omega) (by omega), grown_put2 hG (by omega) _ _, cellP (put2_heap _ _ _ _) db000 (by dsimp only <;> omega), cellP (put2_heap _ _ _ _) db001 (by dsimp only <;> omega), cellP (put2_heap _ _ _ _) db010 (by dsimp only <;> omega), frozenP (put2_heap _ _ _ _) gb010 (by dsimp only <;> omega), cellP (put2_heap _ _ _ _) db011 (by dsimp only <;> omega), frozenP (put2_heap _ _ _ _) gb011 (by dsimp only <;> omega), cellP (put2_heap _ _ _ _) db020 (by dsimp only <;> omega), frozenP (put2_heap _ _ _ _) gb020 (by dsimp only <;> omega), cellP (put2_heap _ _ _ _) db021 (by dsimp only <;> omega), frozenP (put2_heap _ _ _ _) gb021 (by dsimp only <;> omega), h_r0.heap (by rw [put2_size]; exact Nat.le_refl _) (put2_heap _ _ _ _ _ (by omega)), hres.put _ _, h_r2.heap (by rw [put2_size]; exact Nat.le_refl _) (put2_heap _ _ _ _ _ (by omega))⟩⟩
      try simp only [Act.put, List.setIfInBounds_toArray, List.set_cons_zero, List.set_cons_succ]
      refine Reg.wpS7_skip rfl (fun wq hq => ?gs4x18) ?ks4x18
      case gs4x18 =>
        obtain ⟨hs, hG, db000, db001, db010, gb010, db011, gb011, db020, gb020, db021, gb021, h_r0, h_r1, h_r2⟩ := hq.out
        have hres := h_r2
        obtain ⟨_, ⟨x0, cc0⟩, ⟨x1, cc1⟩, hz⟩ := h_r2
        have ff0 := hz 0 (by omega)
        have ff1 := hz 1 (by omega)
        exact ⟨put2 wq (w.heap.size + 1 + 1) (xx) (xy), by unfold put2; go_simp, hid ⟨hs.put (put2_heap _ _ _ _) (put2_size _ _ _ _) (by omega) (by omega), grown_put2 hG (by omega) _ _, cellP (put2_heap _ _ _ _) db000 (by dsimp only <;> omega), cellP (put2_heap _ _ _ _) db001 (by dsimp only <;> omega), cellP (put2_heap _ _ _ _) db010 (by dsimp only <;> omega), frozenP (put2_heap _ _ _ _) gb010 (by dsimp only <;> omega), cellP (put2_heap _ _ _ _) db011 (by dsimp only <;> omega), frozenP (put2_heap _ _ _ _) gb011 (by dsimp only <;> omega), cellP (put2_heap _ _ _ _) db020 (by dsimp only <;> omega), frozenP (put2_heap _ _ _ _) gb020 (by dsimp only <;> omega), cellP (put2_heap _ _ _ _) db021 (by dsimp only <;> omega), frozenP (put2_heap _ _ _ _) gb021 (by dsimp only <;> omega), h_r0.heap (by rw [put2_size]; exact Nat.le_refl _) (put2_heap _ _ _ _ _ (by omega)), h_r1.heap (by rw [put2_size]; exact Nat.le_refl _) (put2_heap _ _ _ _ _ (by omega)), hres.put _ _⟩⟩
      try simp only [Act.put, List.setIfInBounds_toArray, List.set_cons_zero, List.set_cons_succ]
      intro w2 hq
      obtain ⟨hs, hG, db000, db001, db010, gb010, db011, gb011, db020, gb020, db021, gb021, h_r0, h_r1, h_r2⟩ := hq.out
      clear hq
      change wpList _ _ _ _ _ _
      obtain ⟨_, ⟨x00, cr00⟩, ⟨x01, cr01⟩, _⟩ := h_r0
      obtain ⟨_, ⟨x10, cr10⟩, ⟨x11, cr11⟩, _⟩ := h_r1
      obtain ⟨_, ⟨x20, cr20⟩, ⟨x21, cr21⟩, _⟩ := h_r2
      go_wp2_with fail
      try simp only [Exit.inBlock, Exit.then]
      refine bodyPost_ret (by simp [results, Tryz.results49, go_sem, cr00, cr01, cr10, cr11, cr20, cr21]; try rfl) rfl ?_
      exact ⟨⟨_, _, _, _, _, _, _, rfl⟩, by have hBf := below_grown (Below.refl w.heap.size w) hG (by omega) (by omega); first | exact hBf | (rw [hbs]; exact hBf) | go_grown⟩
    · by_cases hz2 : q = 2
      · subst hz2
        go_wp2_with fail
        refine (next_any 3 B bs v _ hs).mono ?_
        rintro e w' ⟨⟨q2, rfl, hr0, hr1, _⟩, hs', hG'⟩
        replace gr00 := frozenG hG' dr00 (by dsimp only <;> omega) gr00
        replace gr01 := frozenG hG' dr01 (by dsimp only <;> omega) gr01
        replace gr10 := frozenG hG' dr10 (by dsimp only <;> omega) gr10
        replace gr11 := frozenG hG' dr11 (by dsimp only <;> omega) gr11
        replace gr20 := frozenG hG' dr20 (by dsimp only <;> omega) gr20
        replace gr21 := frozenG hG' dr21 (by dsimp only <;> omega) gr21
        replace gb010 := frozenG hG' db010 (by dsimp only <;> omega) gb010
        replace gb011 := frozenG hG' db011 (by dsimp only <;> omega) gb011
        replace gb020 := frozenG hG' db020 (by dsimp only <;> omega) gb020
        replace gb021 := frozenG hG' db021 (by dsimp only <;> omega) gb021
        replace dr00 := cellG hG' dr00 (by dsimp only <;> omega)
        replace dr01 := cellG hG' dr01 (by dsimp only <;> omega)
        replace dr10 := cellG hG' dr10 (by dsimp only <;> omega)
        replace dr11 := cellG hG' dr11 (by dsimp only <;> omega)
        replace dr20 := cellG hG' dr20 (by dsimp only <;> omega)
        replace dr21 := cellG hG' dr21 (by dsimp only <;> omega)
        replace db000 := cellG hG' db000 (by dsimp only <;> omega)
        replace db001 := cellG hG' db001 (by dsimp only <;> omega)
        replace db010 := cellG hG' db010 (by dsimp only <;> omega)
        replace db011 := cellG hG' db011 (by dsimp only <;> omega)
        replace db020 := cellG hG' db020 (by dsimp only <;> omega)
        replace db021 := cellG hG' db021 (by dsimp only <;> omega)
        replace hs := hs'
        replace hG := grownBy_trans hG hG'
        clear hs' hG'
        have hrl := hr1 (by omega)
        clear hr1
        by_cases hy : q2 = 0
        · subst hy
          go_wp2_with fail
          generalize hW : (World.setCell (World.setCell w' ⟨r_0 + 1, 0, none⟩ (.int .i64 ax)) ⟨r_0 + 1, 1, none⟩ (.int .i64 ay)) = W4
          have hP : ∀ k, k ≠ r_0 + 1 → W4.heap[k]? = w'.heap[k]? := by subst hW; exact put2_heap _ _ _ _
          have hZ : W4.heap.size = w'.heap.size := by subst hW; exact put2_size _ _ _ _
          have ndb010 : W4.cell? ⟨r_0 + 1, 0, none⟩ = some (.int .i64 ax) := by subst hW; simp [World.cell?_setCell_other, World.cell?_setCell_same, db010, db011]
          have ndb011 : W4.cell? ⟨r_0 + 1, 1, none⟩ = some (.int .i64 ay) := by subst hW; simp [World.cell?_setCell_other, World.cell?_setCell_same, db010, db011]
          have ngb010 : W4.frozen? ⟨r_0 + 1, 0, none⟩ = false := by subst hW; simp [gb010]
          have ngb011 : W4.frozen? ⟨r_0 + 1, 1, none⟩ = false := by subst hW; simp [gb011]
          have hG2 : w.grownBy W4 (some bs) := by subst hW; exact grown_put2 hG (by omega) _ _
          replace hs := hs.put hP hZ (by omega) (by omega)
          replace hG := hG2
          clear hG2
          replace dr00 := cellP hP dr00 (by dsimp only <;> omega)
          replace gr00 := frozenP hP gr00 (by dsimp only <;> omega)
          replace dr01 := cellP hP dr01 (by dsimp only <;> omega)
          replace gr01 := frozenP hP gr01 (by dsimp only <;> omega)
          replace dr10 := cellP hP dr10 (by dsimp only <;> omega)
          replace gr10 := frozenP hP gr10 (by dsimp only <;> omega)
          replace dr11 := cellP hP dr11 (by dsimp only <;> omega)
          replace gr11 := frozenP hP gr11 (by dsimp only <;> omega)
          replace dr20 := cellP hP dr20 (by dsimp only <;> omega)
          replace gr20 := frozenP hP gr20 (by dsimp only <;> omega)
          replace dr21 := cellP hP dr21 (by dsimp only <;> omega)
          replace gr21 := frozenP hP gr21 (by dsimp only <;> omega)
          replace db000 := cellP hP db000 (by dsimp only <;> omega)
          replace db001 := cellP hP db001 (by dsimp only <;> omega)
          replace db010 := ndb010
          clear ndb010
          replace gb010 := ngb010
          clear ngb010
          replace db011 := ndb011
          clear ndb011
          replace gb011 := ngb011
          clear ngb011
          replace db020 := cellP hP db020 (by dsimp only <;> omega)
          replace gb020 := frozenP hP gb020 (by dsimp only <;> omega)
          replace db021 := cellP hP db021 (by dsimp only <;> omega)
          replace gb021 := frozenP hP gb021 (by dsimp only <;> omega)
          clear hP hZ hW
          go_wp2_with fail
          have h_r0 : Res2 _ (w.heap.size) := ⟨World.block_lt_of_cell? _ _ dr00, ⟨_, dr00⟩, ⟨_, dr01⟩, fun j hj => by match j, hj with | 0, _ => exact gr00 | 1, _ => exact gr01⟩
          have h_r1 : Res2 _ (w.heap.size + 1) := ⟨World.block_lt_of_cell? _ _ dr10, ⟨_, dr10⟩, ⟨_, dr11⟩, fun j hj => by match j, hj with | 0, _ => exact gr10 | 1, _ => exact gr11⟩
          have h_r2 : Res2 _ (w.heap.size + 1 + 1) := ⟨World.block_lt_of_cell? _ _ dr20, ⟨_, dr20⟩, ⟨_, dr21⟩, fun j hj => by match j, hj with | 0, _ => exact gr20 | 1, _ => exact gr21⟩
          clear dr00 gr00 dr01 gr01 dr10 gr10 dr11 gr11 dr20 gr20 dr21 gr21
          refine Reg.wp_region_steps7 (by kernel_rfl) 19 (by kernel_rfl) (fun wq => Hid (Src wq B bs v ∧ w.grownBy wq (some bs) ∧ wq.cell? ⟨r_0, 0, none⟩ = some (.int .i64 ax) ∧ wq.cell? ⟨r_0, 1, none⟩ = some (.int .i64 ay) ∧ wq.cell? ⟨r_0 + 1, 0, none⟩ = some (.int .i64 ax) ∧ wq.frozen? ⟨r_0 + 1, 0, none⟩ = false ∧ wq.cell? ⟨r_0 + 1, 1, none⟩ = some (.int .i64 ay) ∧ wq.frozen? ⟨r_0 + 1, 1, none⟩ = false ∧ wq.cell? ⟨r_0 + 1 + 1, 0, none⟩ = some (.int .i64 cx) ∧ wq.frozen? ⟨r_0 + 1 + 1, 0, none⟩ = false ∧ wq.cell? ⟨r_0 + 1 + 1, 1, none⟩ = some (.int .i64 cy) ∧ wq.frozen? ⟨r_0 + 1 + 1, 1, none⟩ = false ∧ Res2 wq (w.heap.size) ∧ Res2 wq (w.heap.size + 1) ∧ Res2 wq (w.heap.size + 1 + 1))) [(fun v => v = .pointer (some ⟨bs, 0, none⟩)), (fun v => v = .int .i64 p), IsI, (fun v => v = .pointer (some ⟨bs, 0, none⟩)), (fun v => v = .int .i64 p), (fun v => v = .agg #[.int .i64 ax, .int .i64 ay]), IsP, (fun v => v = .pointer (some ⟨bs, 0, none⟩)), (fun v => v = .int .i64 p), (fun v => v = .agg #[.int .i64 ax, .int .i64 ay]), IsP, (fun v => v = .pointer (some ⟨bs, 0, none⟩)), (fun v => v = .int .i64 p), (fun v => v = .agg #[.int .i64 cx, .int .i64 cy]), IsP, IsI, Reg.anyV, Reg.anyV, Reg.anyV] (Reg.inh_cons ⟨_, rfl⟩ (Reg.inh_cons ⟨_, rfl⟩ (Reg.inh_cons ⟨.int .i64 0, _, rfl⟩ (Reg.inh_cons ⟨_, rfl⟩ (Reg.inh_cons ⟨_, rfl⟩ (Reg.inh_cons ⟨_, rfl⟩ (Reg.inh_cons ⟨.agg #[.int .i64 0, .int .i64 0], _, _, rfl⟩ (Reg.inh_cons ⟨_, rfl⟩ (Reg.inh_cons ⟨_, rfl⟩ (Reg.inh_cons ⟨_, rfl⟩ (Reg.inh_cons ⟨.agg #[.int .i64 0, .int .i64 0], _, _, rfl⟩ (Reg.inh_cons ⟨_, rfl⟩ (Reg.inh_cons ⟨_, rfl⟩ (Reg.inh_cons ⟨_, rfl⟩ (Reg.inh_cons ⟨.agg #[.int .i64 0, .int .i64 0], _, _, rfl⟩ (Reg.inh_cons ⟨.int .i64 0, _, rfl⟩ (Reg.inh_cons ⟨undef, trivial⟩ (Reg.inh_cons ⟨undef, trivial⟩ (Reg.inh_cons ⟨undef, trivial⟩ (Reg.inh_nil)))))))))))))))))))) ?_ ?_
          · exact hid ⟨hs.drew, grownBy_drew hG, keepC (Below.refl _ _).drew db000, keepC (Below.refl _ _).drew db001, keepC (Below.refl _ _).drew db010, keepF (Below.refl _ _).drew db010 gb010, keepC (Below.refl _ _).drew db011, keepF (Below.refl _ _).drew db011 gb011, keepC (Below.refl _ _).drew db020, keepF (Below.refl _ _).drew db020 gb020, keepC (Below.refl _ _).drew db021, keepF (Below.refl _ _).drew db021 gb021, h_r0.keep (Below.refl _ _).drew, h_r1.keep (Below.refl _ _).drew, h_r2.keep (Below.refl _ _).drew⟩
          clear hs hG db000 db001 db010 gb010 db011 gb011 db020 gb020 db021 gb021 h_r0 h_r1 h_r2
          simp only [List.take_succ_cons, List.take_zero, List.drop_succ_cons, List.drop_zero]
          refine Reg.wpS7_val (fun wq hq => ?gs5x0) ?ks5x0
          case gs5x0 => (obtain ⟨hs, hG, db000, db001, db010, gb010, db011, gb011, db020, gb020, db021, gb021, h_r0, h_r1, h_r2⟩ := hq.out; go_simp; first | done | (with_reducible rfl) | rfl)
          try simp only [Act.put, List.setIfInBounds_toArray, List.set_cons_zero, List.set_cons_succ]
          refine Reg.wpS7_val (fun wq hq => ?gs5x1) ?ks5x1
          case gs5x1 => (obtain ⟨hs, hG, db000, db001, db010, gb010, db011, gb011, db020, gb020, db021, gb021, h_r0, h_r1, h_r2⟩ := hq.out; go_simp; first | done | (with_reducible rfl) | rfl)
          try simp only [Act.put, List.setIfInBounds_toArray, List.set_cons_zero, List.set_cons_succ]
          refine Reg.wpS7_step (fun wq hq => ?gs5x2) ?ks5x2
          case gs5x2 =>
            obtain ⟨hs, hG, db000, db001, db010, gb010, db011, gb011, db020, gb020, db021, gb021, h_r0, h_r1, h_r2⟩ := hq.out
            refine Reg.sAt7_call (f := 77) (args := #[.pointer (some ⟨bs, 0, none⟩), .int .i64 p]) (by go_simp) ?_
            refine (badField_any _ B bs v _ hs).mono ?_
            rintro e w' ⟨⟨q0, rfl⟩, hs', hG'⟩
            replace h_r0 := h_r0.grown hG' (by omega)
            replace h_r1 := h_r1.grown hG' (by omega)
            replace h_r2 := h_r2.grown hG' (by omega)
            replace gb010 := frozenG hG' db010 (by dsimp only <;> omega) gb010
            replace gb011 := frozenG hG' db011 (by dsimp only <;> omega) gb011
            replace gb020 := frozenG hG' db020 (by dsimp only <;> omega) gb020
            replace gb021 := frozenG hG' db021 (by dsimp only <;> omega) gb021
            replace db000 := cellG hG' db000 (by dsimp only <;> omega)
            replace db001 := cellG hG' db001 (by dsimp only <;> omega)
            replace db010 := cellG hG' db010 (by dsimp only <;> omega)
            replace db011 := cellG hG' db011 (by dsimp only <;> omega)
            replace db020 := cellG hG' db020 (by dsimp only <;> omega)
            replace db021 := cellG hG' db021 (by dsimp only <;> omega)
            replace hs := hs'
            replace hG := grownBy_trans hG hG'
            clear hs' hG'
            exact ⟨_, rfl, ⟨_, rfl⟩, hid ⟨hs, hG, db000, db001, db010, gb010, db011, gb011, db020, gb020, db021, gb021, h_r0, h_r1, h_r2⟩⟩
          rintro _ ⟨uf, rfl⟩
          try simp only [Act.put, List.setIfInBounds_toArray, List.set_cons_zero, List.set_cons_succ]
          refine Reg.wpS7_val (fun wq hq => ?gs5x3) ?ks5x3
          case gs5x3 => (obtain ⟨hs, hG, db000, db001, db010, gb010, db011, gb011, db020, gb020, db021, gb021, h_r0, h_r1, h_r2⟩ := hq.out; go_simp; first | done | (with_reducible rfl) | rfl)
          try simp only [Act.put, List.setIfInBounds_toArray, List.set_cons_zero, List.set_cons_succ]
          refine Reg.wpS7_val (fun wq hq => ?gs5x4) ?ks5x4
          case gs5x4 => (obtain ⟨hs, hG, db000, db001, db010, gb010, db011, gb011, db020, gb020, db021, gb021, h_r0, h_r1, h_r2⟩ := hq.out; go_simp; first | done | (with_reducible rfl) | rfl)
          try simp only [Act.put, List.setIfInBounds_toArray, List.set_cons_zero, List.set_cons_succ]
          refine Reg.wpS7_val (fun wq hq => ?gs5x5) ?ks5x5
          case gs5x5 => (obtain ⟨hs, hG, db000, db001, db010, gb010, db011, gb011, db020, gb020, db021, gb021, h_r0, h_r1, h_r2⟩ := hq.out; go_simp; first | done | (with_reducible rfl) | rfl)
          try simp only [Act.put, List.setIfInBounds_toArray, List.set_cons_zero, List.set_cons_succ]
          refine Reg.wpS7_step (fun wq hq => ?gs5x6) ?ks5x6
          case gs5x6 =>
            obtain ⟨hs, hG, db000, db001, db010, gb010, db011, gb011, db020, gb020, db021, gb021, h_r0, h_r1, h_r2⟩ := hq.out
            refine Reg.sAt7_call (f := 86) (args := #[.pointer (some ⟨bs, 0, none⟩), .int .i64 p, .agg #[.int .i64 ax, .int .i64 ay]]) (by go_simp) ?_
            refine (badPoint_any _ _ _ B bs v _ hs).mono ?_
            rintro e w' ⟨⟨q0, q1, rfl⟩, hs', hG'⟩
            replace h_r0 := h_r0.grown hG' (by omega)
            replace h_r1 := h_r1.grown hG' (by omega)
            replace h_r2 := h_r2.grown hG' (by omega)
            replace gb010 := frozenG hG' db010 (by dsimp only <;> omega) gb010
            replace gb011 := frozenG hG' db011 (by dsimp only <;> omega) gb011
            replace gb020 := frozenG hG' db020 (by dsimp only <;> omega) gb020
            replace gb021 := frozenG hG' db021 (by dsimp only <;> omega) gb021
            replace db000 := cellG hG' db000 (by dsimp only <;> omega)
            replace db001 := cellG hG' db001 (by dsimp only <;> omega)
            replace db010 := cellG hG' db010 (by dsimp only <;> omega)
            replace db011 := cellG hG' db011 (by dsimp only <;> omega)
            replace db020 := cellG hG' db020 (by dsimp only <;> omega)
            replace db021 := cellG hG' db021 (by dsimp only <;> omega)
            replace hs := hs'
            replace hG := grownBy_trans hG hG'
            clear hs' hG'
            exact ⟨_, rfl, ⟨_, _, rfl⟩, hid ⟨hs, hG, db000, db001, db010, gb010, db011, gb011, db020, gb020, db021, gb021, h_r0, h_r1, h_r2⟩⟩
          rintro _ ⟨ux, uy, rfl⟩
          try simp only [Act.put, List.setIfInBounds_toArray, List.set_cons_zero, List.set_cons_succ]
          refine Reg.wpS7_val (fun wq hq => ?gs5x7) ?ks5x7
          case gs5x7 => (obtain ⟨hs, hG, db000, db001, db010, gb010, db011, gb011, db020, gb020, db021, gb021, h_r0, h_r1, h_r2⟩ := hq.out; go_simp; first | done | (with_reducible rfl) | rfl)
          try simp only [Act.put, List.setIfInBounds_toArray, List.set_cons_zero, List.set_cons_succ]
          refine Reg.wpS7_val (fun wq hq => ?gs5x8) ?ks5x8
          case gs5x8 => (obtain ⟨hs, hG, db000, db001, db010, gb010, db011, gb011, db020, gb020, db021, gb021, h_r0, h_r1, h_r2⟩ := hq.out; go_simp; first | done | (with_reducible rfl) | rfl)
          try simp only [Act.put, List.setIfInBounds_toArray, List.set_cons_zero, List.set_cons_succ]
          refine Reg.wpS7_val (fun wq hq => ?gs5x9) ?ks5x9
          case gs5x9 => (obtain ⟨hs, hG, db000, db001, db010, gb010, db011, gb011, db020, gb020, db021, gb021, h_r0, h_r1, h_r2⟩ := hq.out; go_simp; first | done | (with_reducible rfl) | rfl)
          try simp only [Act.put, List.setIfInBounds_toArray, List.set_cons_zero, List.set_cons_succ]
          refine Reg.wpS7_step (fun wq hq => ?gs5x10) ?ks5x10
          case gs5x10 =>
            obtain ⟨hs, hG, db000, db001, db010, gb010, db011, gb011, db020, gb020, db021, gb021, h_r0, h_r1, h_r2⟩ := hq.out
            refine Reg.sAt7_call (f := 86) (args := #[.pointer (some ⟨bs, 0, none⟩), .int .i64 p, .agg #[.int .i64 ax, .int .i64 ay]]) (by go_simp) ?_
            refine (badPoint_any _ _ _ B bs v _ hs).mono ?_
            rintro e w' ⟨⟨q0, q1, rfl⟩, hs', hG'⟩
            replace h_r0 := h_r0.grown hG' (by omega)
            replace h_r1 := h_r1.grown hG' (by omega)
            replace h_r2 := h_r2.grown hG' (by omega)
            replace gb010 := frozenG hG' db010 (by dsimp only <;> omega) gb010
            replace gb011 := frozenG hG' db011 (by dsimp only <;> omega) gb011
            replace gb020 := frozenG hG' db020 (by dsimp only <;> omega) gb020
            replace gb021 := frozenG hG' db021 (by dsimp only <;> omega) gb021
            replace db000 := cellG hG' db000 (by dsimp only <;> omega)
            replace db001 := cellG hG' db001 (by dsimp only <;> omega)
            replace db010 := cellG hG' db010 (by dsimp only <;> omega)
            replace db011 := cellG hG' db011 (by dsimp only <;> omega)
            replace db020 := cellG hG' db020 (by dsimp only <;> omega)
            replace db021 := cellG hG' db021 (by dsimp only <;> omega)
            replace hs := hs'
            replace hG := grownBy_trans hG hG'
            clear hs' hG'
            exact ⟨_, rfl, ⟨_, _, rfl⟩, hid ⟨hs, hG, db000, db001, db010, gb010, db011, gb011, db020, gb020, db021, gb021, h_r0, h_r1, h_r2⟩⟩
          rintro _ ⟨vx, vy, rfl⟩
          try simp only [Act.put, List.setIfInBounds_toArray, List.set_cons_zero, List.set_cons_succ]
          refine Reg.wpS7_val (fun wq hq => ?gs5x11) ?ks5x11
          case gs5x11 => (obtain ⟨hs, hG, db000, db001, db010, gb010, db011, gb011, db020, gb020, db021, gb021, h_r0, h_r1, h_r2⟩ := hq.out; go_simp; first | done | (with_reducible rfl) | rfl)
          try simp only [Act.put, List.setIfInBounds_toArray, List.set_cons_zero, List.set_cons_succ]
          refine Reg.wpS7_val (fun wq hq => ?gs5x12) ?ks5x12
          case gs5x12 => (obtain ⟨hs, hG, db000, db001, db010, gb010, db011, gb011, db020, gb020, db021, gb021, h_r0, h_r1, h_r2⟩ := hq.out; go_simp; first | done | (with_reducible rfl) | rfl)
          try simp only [Act.put, List.setIfInBounds_toArray, List.set_cons_zero, List.set_cons_succ]
          refine Reg.wpS7_val (fun wq hq => ?gs5x13) ?ks5x13
          case gs5x13 => (obtain ⟨hs, hG, db000, db001, db010, gb010, db011, gb011, db020, gb020, db021, gb021, h_r0, h_r1, h_r2⟩ := hq.out; go_simp; first | done | (with_reducible rfl) | rfl)
          try simp only [Act.put, List.setIfInBounds_toArray, List.set_cons_zero, List.set_cons_succ]
          refine Reg.wpS7_step (fun wq hq => ?gs5x14) ?ks5x14
          case gs5x14 =>
            obtain ⟨hs, hG, db000, db001, db010, gb010, db011, gb011, db020, gb020, db021, gb021, h_r0, h_r1, h_r2⟩ := hq.out
            refine Reg.sAt7_call (f := 86) (args := #[.pointer (some ⟨bs, 0, none⟩), .int .i64 p, .agg #[.int .i64 cx, .int .i64 cy]]) (by go_simp) ?_
            refine (badPoint_any _ _ _ B bs v _ hs).mono ?_
            rintro e w' ⟨⟨q0, q1, rfl⟩, hs', hG'⟩
            replace h_r0 := h_r0.grown hG' (by omega)
            replace h_r1 := h_r1.grown hG' (by omega)
            replace h_r2 := h_r2.grown hG' (by omega)
            replace gb010 := frozenG hG' db010 (by dsimp only <;> omega) gb010
            replace gb011 := frozenG hG' db011 (by dsimp only <;> omega) gb011
            replace gb020 := frozenG hG' db020 (by dsimp only <;> omega) gb020
            replace gb021 := frozenG hG' db021 (by dsimp only <;> omega) gb021
            replace db000 := cellG hG' db000 (by dsimp only <;> omega)
            replace db001 := cellG hG' db001 (by dsimp only <;> omega)
            replace db010 := cellG hG' db010 (by dsimp only <;> omega)
            replace db011 := cellG hG' db011 (by dsimp only <;> omega)
            replace db020 := cellG hG' db020 (by dsimp only <;> omega)
            replace db021 := cellG hG' db021 (by dsimp only <;> omega)
            replace hs := hs'
            replace hG := grownBy_trans hG hG'
            clear hs' hG'
            exact ⟨_, rfl, ⟨_, _, rfl⟩, hid ⟨hs, hG, db000, db001, db010, gb010, db011, gb011, db020, gb020, db021, gb021, h_r0, h_r1, h_r2⟩⟩
          rintro _ ⟨xx, xy, rfl⟩
          try simp only [Act.put, List.setIfInBounds_toArray, List.set_cons_zero, List.set_cons_succ]
          refine Reg.wpS7_step (fun wq hq => ?gs5x15) ?ks5x15
          case gs5x15 => exact Reg.sAt7_val (v := .int .i64 uf) (by go_simp; first | done | rfl) ⟨_, rfl⟩ hq
          rintro _ ⟨uf2, rfl⟩
          try simp only [Act.put, List.setIfInBounds_toArray, List.set_cons_zero, List.set_cons_succ]
          refine Reg.wpS7_skip rfl (fun wq hq => ?gs5x16) ?ks5x16
          case gs5x16 =>
            obtain ⟨hs, hG, db000, db001, db010, gb010, db011, gb011, db020, gb020, db021, gb021, h_r0, h_r1, h_r2⟩ := hq.out
            have hres := h_r0
            obtain ⟨_, ⟨x0, cc0⟩, ⟨x1, cc1⟩, hz⟩ := h_r0
            have ff0 := hz 0 (by omega)
            have ff1 := hz 1 (by omega)
            exact ⟨put2 wq (w.heap.size) (ux) (uy), by unfold put2; go_simp, hid ⟨hs.put (put2_heap _ _ _ _) (put2_size _ _ _ _) (by omega) (by omega), grown_put2 hG (by omega) _ _, cellP (put2_heap _ _ _ _) db000 (by dsimp only <;> omega), cellP (put2_heap _ _ _ _) db001 (by dsimp only <;> omega), cellP (put2_heap _ _ _ _) db010 (by dsimp only <;> omega), frozenP (put2_heap _ _ _ _) gb010 (by dsimp only <;> omega), cellP (put2_heap _ _ _ _) db011 (by dsimp only <;> omega), frozenP (put2_heap _ _ _ _) gb011 (by dsimp only <;> omega), cellP (put2_heap _ _ _ _) db020 (by dsimp only <;> omega), frozenP (put2_heap _ _ _ _) gb020 (by dsimp only <;> omega), cellP (put2_heap _ _ _ _) db021 (by dsimp only <;> omega), frozenP (put2_heap _ _ _ _) gb021 (by dsimp only <;> omega), hres.put _ _, h_r1.heap (by rw [put2_size]; exact Nat.le_refl _) (put2_heap _ _ _ _ _ (by omega)), h_r2.heap (by rw [put2_size]; exact Nat.le_refl _) (put2_heap _ _ _ _ _ (by omega))⟩⟩
          try simp only [Act.put, List.setIfInBounds_toArray, List.set_cons_zero, List.set_cons_succ]
          refine Reg.wpS7_skip rfl (fun wq hq => ?gs5x17) ?ks5x17
          case gs5x17 =>
            obtain ⟨hs, hG, db000, db001, db010, gb010, db011, gb011, db020, gb020, db021, gb021, h_r0, h_r1, h_r2⟩ := hq.out
            have hres := h_r1
            obtain ⟨_, ⟨x0, cc0⟩, ⟨x1, cc1⟩, hz⟩ := h_r1
            have ff0 := hz 0 (by omega)
            have ff1 := hz 1 (by omega)
            exact ⟨put2 wq (w.heap.size + 1) (vx) (vy), by unfold put2; go_simp, hid ⟨hs.put (put2_heap _ _ _ _) (put2_size _ _ _ _) (by omega) (by omega), grown_put2 hG (by omega) _ _, cellP (put2_heap _ _ _ _) db000 (by dsimp only <;> omega), cellP (put2_heap _ _ _ _) db001 (by dsimp only <;> omega), cellP (put2_heap _ _ _ _) db010 (by dsimp only <;> omega), frozenP (put2_heap _ _ _ _) gb010 (by dsimp only <;> omega), cellP (put2_heap _ _ _ _) db011 (by dsimp only <;> omega), frozenP (put2_heap _ _ _ _) gb011 (by dsimp only <;> omega), cellP (put2_heap _ _ _ _) db020 (by dsimp only <;> omega), frozenP (put2_heap _ _ _ _) gb020 (by dsimp only <;> omega), cellP (put2_heap _ _ _ _) db021 (by dsimp only <;> omega), frozenP (put2_heap _ _ _ _) gb021 (by dsimp only <;> omega), h_r0.heap (by rw [put2_size]; exact Nat.le_refl _) (put2_heap _ _ _ _ _ (by omega)), hres.put _ _, h_r2.heap (by rw [put2_size]; exact Nat.le_refl _) (put2_heap _ _ _ _ _ (by omega))⟩⟩
          try simp only [Act.put, List.setIfInBounds_toArray, List.set_cons_zero, List.set_cons_succ]
          refine Reg.wpS7_skip rfl (fun wq hq => ?gs5x18) ?ks5x18
          case gs5x18 =>
            obtain ⟨hs, hG, db000, db001, db010, gb010, db011, gb011, db020, gb020, db021, gb021, h_r0, h_r1, h_r2⟩ := hq.out
            have hres := h_r2
            obtain ⟨_, ⟨x0, cc0⟩, ⟨x1, cc1⟩, hz⟩ := h_r2
            have ff0 := hz 0 (by omega)
            have ff1 := hz 1 (by omega)
            exact ⟨put2 wq (w.heap.size + 1 + 1) (xx) (xy), by unfold put2; go_simp, hid ⟨hs.put (put2_heap _ _ _ _) (put2_size _ _ _ _) (by omega) (by omega), grown_put2 hG (by omega) _ _, cellP (put2_heap _ _ _ _) db000 (by dsimp only <;> omega), cellP (put2_heap _ _ _ _) db001 (by dsimp only <;> omega), cellP (put2_heap _ _ _ _) db010 (by dsimp only <;> omega), frozenP (put2_heap _ _ _ _) gb010 (by dsimp only <;> omega), cellP (put2_heap _ _ _ _) db011 (by dsimp only <;> omega), frozenP (put2_heap _ _ _ _) gb011 (by dsimp only <;> omega), cellP (put2_heap _ _ _ _) db020 (by dsimp only <;> omega), frozenP (put2_heap _ _ _ _) gb020 (by dsimp only <;> omega), cellP (put2_heap _ _ _ _) db021 (by dsimp only <;> omega), frozenP (put2_heap _ _ _ _) gb021 (by dsimp only <;> omega), h_r0.heap (by rw [put2_size]; exact Nat.le_refl _) (put2_heap _ _ _ _ _ (by omega)), h_r1.heap (by rw [put2_size]; exact Nat.le_refl _) (put2_heap _ _ _ _ _ (by omega)), hres.put _ _⟩⟩
          try simp only [Act.put, List.setIfInBounds_toArray, List.set_cons_zero, List.set_cons_succ]
          intro w2 hq
          obtain ⟨hs, hG, db000, db001, db010, gb010, db011, gb011, db020, gb020, db021, gb021, h_r0, h_r1, h_r2⟩ := hq.out
          clear hq
          change wpList _ _ _ _ _ _
          obtain ⟨_, ⟨x00, cr00⟩, ⟨x01, cr01⟩, _⟩ := h_r0
          obtain ⟨_, ⟨x10, cr10⟩, ⟨x11, cr11⟩, _⟩ := h_r1
          obtain ⟨_, ⟨x20, cr20⟩, ⟨x21, cr21⟩, _⟩ := h_r2
          go_wp2_with fail
          try simp only [Exit.inBlock, Exit.then]
          refine bodyPost_ret (by simp [results, Tryz.results49, go_sem, cr00, cr01, cr10, cr11, cr20, cr21]; try rfl) rfl ?_
          exact ⟨⟨_, _, _, _, _, _, _, rfl⟩, by have hBf := below_grown (Below.refl w.heap.size w) hG (by omega) (by omega); first | exact hBf | (rw [hbs]; exact hBf) | go_grown⟩
        · go_wp2_with fail
          have h_r0 : Res2 _ (w.heap.size) := ⟨World.block_lt_of_cell? _ _ dr00, ⟨_, dr00⟩, ⟨_, dr01⟩, fun j hj => by match j, hj with | 0, _ => exact gr00 | 1, _ => exact gr01⟩
          have h_r1 : Res2 _ (w.heap.size + 1) := ⟨World.block_lt_of_cell? _ _ dr10, ⟨_, dr10⟩, ⟨_, dr11⟩, fun j hj => by match j, hj with | 0, _ => exact gr10 | 1, _ => exact gr11⟩
          have h_r2 : Res2 _ (w.heap.size + 1 + 1) := ⟨World.block_lt_of_cell? _ _ dr20, ⟨_, dr20⟩, ⟨_, dr21⟩, fun j hj => by match j, hj with | 0, _ => exact gr20 | 1, _ => exact gr21⟩
          clear dr00 gr00 dr01 gr01 dr10 gr10 dr11 gr11 dr20 gr20 dr21 gr21
          refine Reg.wp_region_steps7 (by kernel_rfl) 19 (by kernel_rfl) (fun wq => Hid (Src wq B bs v ∧ w.grownBy wq (some bs) ∧ wq.cell? ⟨r_0, 0, none⟩ = some (.int .i64 ax) ∧ wq.cell? ⟨r_0, 1, none⟩ = some (.int .i64 ay) ∧ wq.cell? ⟨r_0 + 1, 0, none⟩ = some (.int .i64 bx) ∧ wq.frozen? ⟨r_0 + 1, 0, none⟩ = false ∧ wq.cell? ⟨r_0 + 1, 1, none⟩ = some (.int .i64 by_) ∧ wq.frozen? ⟨r_0 + 1, 1, none⟩ = false ∧ wq.cell? ⟨r_0 + 1 + 1, 0, none⟩ = some (.int .i64 cx) ∧ wq.frozen? ⟨r_0 + 1 + 1, 0, none⟩ = false ∧ wq.cell? ⟨r_0 + 1 + 1, 1, none⟩ = some (.int .i64 cy) ∧ wq.frozen? ⟨r_0 + 1 + 1, 1, none⟩ = false ∧ Res2 wq (w.heap.size) ∧ Res2 wq (w.heap.size + 1) ∧ Res2 wq (w.heap.size + 1 + 1))) [(fun v => v = .pointer (some ⟨bs, 0, none⟩)), (fun v => v = .int .i64 p), IsI, (fun v => v = .pointer (some ⟨bs, 0, none⟩)), (fun v => v = .int .i64 p), (fun v => v = .agg #[.int .i64 ax, .int .i64 ay]), IsP, (fun v => v = .pointer (some ⟨bs, 0, none⟩)), (fun v => v = .int .i64 p), (fun v => v = .agg #[.int .i64 bx, .int .i64 by_]), IsP, (fun v => v = .pointer (some ⟨bs, 0, none⟩)), (fun v => v = .int .i64 p), (fun v => v = .agg #[.int .i64 cx, .int .i64 cy]), IsP, IsI, Reg.anyV, Reg.anyV, Reg.anyV] (Reg.inh_cons ⟨_, rfl⟩ (Reg.inh_cons ⟨_, rfl⟩ (Reg.inh_cons ⟨.int .i64 0, _, rfl⟩ (Reg.inh_cons ⟨_, rfl⟩ (Reg.inh_cons ⟨_, rfl⟩ (Reg.inh_cons ⟨_, rfl⟩ (Reg.inh_cons ⟨.agg #[.int .i64 0, .int .i64 0], _, _, rfl⟩ (Reg.inh_cons ⟨_, rfl⟩ (Reg.inh_cons ⟨_, rfl⟩ (Reg.inh_cons ⟨_, rfl⟩ (Reg.inh_cons ⟨.agg #[.int .i64 0, .int .i64 0], _, _, rfl⟩ (Reg.inh_cons ⟨_, rfl⟩ (Reg.inh_cons ⟨_, rfl⟩ (Reg.inh_cons ⟨_, rfl⟩ (Reg.inh_cons ⟨.agg #[.int .i64 0, .int .i64 0], _, _, rfl⟩ (Reg.inh_cons ⟨.int .i64 0, _, rfl⟩ (Reg.inh_cons ⟨undef, trivial⟩ (Reg.inh_cons ⟨undef, trivial⟩ (Reg.inh_cons ⟨undef, trivial⟩ (Reg.inh_nil)))))))))))))))))))) ?_ ?_
          · exact hid ⟨hs.drew, grownBy_drew hG, keepC (Below.refl _ _).drew db000, keepC (Below.refl _ _).drew db001, keepC (Below.refl _ _).drew db010, keepF (Below.refl _ _).drew db010 gb010, keepC (Below.refl _ _).drew db011, keepF (Below.refl _ _).drew db011 gb011, keepC (Below.refl _ _).drew db020, keepF (Below.refl _ _).drew db020 gb020, keepC (Below.refl _ _).drew db021, keepF (Below.refl _ _).drew db021 gb021, h_r0.keep (Below.refl _ _).drew, h_r1.keep (Below.refl _ _).drew, h_r2.keep (Below.refl _ _).drew⟩
          clear hs hG db000 db001 db010 gb010 db011 gb011 db020 gb020 db021 gb021 h_r0 h_r1 h_r2
          simp only [List.take_succ_cons, List.take_zero, List.drop_succ_cons, List.drop_zero]
          refine Reg.wpS7_val (fun wq hq => ?gs6x0) ?ks6x0
          case gs6x0 => (obtain ⟨hs, hG, db000, db001, db010, gb010, db011, gb011, db020, gb020, db021, gb021, h_r0, h_r1, h_r2⟩ := hq.out; go_simp; first | done | (with_reducible rfl) | rfl)
          try simp only [Act.put, List.setIfInBounds_toArray, List.set_cons_zero, List.set_cons_succ]
          refine Reg.wpS7_val (fun wq hq => ?gs6x1) ?ks6x1
          case gs6x1 => (obtain ⟨hs, hG, db000, db001, db010, gb010, db011, gb011, db020, gb020, db021, gb021, h_r0, h_r1, h_r2⟩ := hq.out; go_simp; first | done | (with_reducible rfl) | rfl)
          try simp only [Act.put, List.setIfInBounds_toArray, List.set_cons_zero, List.set_cons_succ]
          refine Reg.wpS7_step (fun wq hq => ?gs6x2) ?ks6x2
          case gs6x2 =>
            obtain ⟨hs, hG, db000, db001, db010, gb010, db011, gb011, db020, gb020, db021, gb021, h_r0, h_r1, h_r2⟩ := hq.out
            refine Reg.sAt7_call (f := 77) (args := #[.pointer (some ⟨bs, 0, none⟩), .int .i64 p]) (by go_simp) ?_
            refine (badField_any _ B bs v _ hs).mono ?_
            rintro e w' ⟨⟨q0, rfl⟩, hs', hG'⟩
            replace h_r0 := h_r0.grown hG' (by omega)
            replace h_r1 := h_r1.grown hG' (by omega)
            replace h_r2 := h_r2.grown hG' (by omega)
            replace gb010 := frozenG hG' db010 (by dsimp only <;> omega) gb010
            replace gb011 := frozenG hG' db011 (by dsimp only <;> omega) gb011
            replace gb020 := frozenG hG' db020 (by dsimp only <;> omega) gb020
            replace gb021 := frozenG hG' db021 (by dsimp only <;> omega) gb021
            replace db000 := cellG hG' db000 (by dsimp only <;> omega)
            replace db001 := cellG hG' db001 (by dsimp only <;> omega)
            replace db010 := cellG hG' db010 (by dsimp only <;> omega)
            replace db011 := cellG hG' db011 (by dsimp only <;> omega)
            replace db020 := cellG hG' db020 (by dsimp only <;> omega)
            replace db021 := cellG hG' db021 (by dsimp only <;> omega)
            replace hs := hs'
            replace hG := grownBy_trans hG hG'
            clear hs' hG'
            exact ⟨_, rfl, ⟨_, rfl⟩, hid ⟨hs, hG, db000, db001, db010, gb010, db011, gb011, db020, gb020, db021, gb021, h_r0, h_r1, h_r2⟩⟩
          rintro _ ⟨uf, rfl⟩
          try simp only [Act.put, List.setIfInBounds_toArray, List.set_cons_zero, List.set_cons_succ]
          refine Reg.wpS7_val (fun wq hq => ?gs6x3) ?ks6x3
          case gs6x3 => (obtain ⟨hs, hG, db000, db001, db010, gb010, db011, gb011, db020, gb020, db021, gb021, h_r0, h_r1, h_r2⟩ := hq.out; go_simp; first | done | (with_reducible rfl) | rfl)
          try simp only [Act.put, List.setIfInBounds_toArray, List.set_cons_zero, List.set_cons_succ]
          refine Reg.wpS7_val (fun wq hq => ?gs6x4) ?ks6x4
          case gs6x4 => (obtain ⟨hs, hG, db000, db001, db010, gb010, db011, gb011, db020, gb020, db021, gb021, h_r0, h_r1, h_r2⟩ := hq.out; go_simp; first | done | (with_reducible rfl) | rfl)
          try simp only [Act.put, List.setIfInBounds_toArray, List.set_cons_zero, List.set_cons_succ]
          refine Reg.wpS7_val (fun wq hq => ?gs6x5) ?ks6x5
          case gs6x5 => (obtain ⟨hs, hG, db000, db001, db010, gb010, db011, gb011, db020, gb020, db021, gb021, h_r0, h_r1, h_r2⟩ := hq.out; go_simp; first | done | (with_reducible rfl) | rfl)
          try simp only [Act.put, List.setIfInBounds_toArray, List.set_cons_zero, List.set_cons_succ]
          refine Reg.wpS7_step (fun wq hq => ?gs6x6) ?ks6x6
          case gs6x6 =>
            obtain ⟨hs, hG, db000, db001, db010, gb010, db011, gb011, db020, gb020, db021, gb021, h_r0, h_r1, h_r2⟩ := hq.out
            refine Reg.sAt7_call (f := 86) (args := #[.pointer (some ⟨bs, 0, none⟩), .int .i64 p, .agg #[.int .i64 ax, .int .i64 ay]]) (by go_simp) ?_
            refine (badPoint_any _ _ _ B bs v _ hs).mono ?_
            rintro e w' ⟨⟨q0, q1, rfl⟩, hs', hG'⟩
            replace h_r0 := h_r0.grown hG' (by omega)
            replace h_r1 := h_r1.grown hG' (by omega)
            replace h_r2 := h_r2.grown hG' (by omega)
            replace gb010 := frozenG hG' db010 (by dsimp only <;> omega) gb010
            replace gb011 := frozenG hG' db011 (by dsimp only <;> omega) gb011
            replace gb020 := frozenG hG' db020 (by dsimp only <;> omega) gb020
            replace gb021 := frozenG hG' db021 (by dsimp only <;> omega) gb021
            replace db000 := cellG hG' db000 (by dsimp only <;> omega)
            replace db001 := cellG hG' db001 (by dsimp only <;> omega)
            replace db010 := cellG hG' db010 (by dsimp only <;> omega)
            replace db011 := cellG hG' db011 (by dsimp only <;> omega)
            replace db020 := cellG hG' db020 (by dsimp only <;> omega)
            replace db021 := cellG hG' db021 (by dsimp only <;> omega)
            replace hs := hs'
            replace hG := grownBy_trans hG hG'
            clear hs' hG'
            exact ⟨_, rfl, ⟨_, _, rfl⟩, hid ⟨hs, hG, db000, db001, db010, gb010, db011, gb011, db020, gb020, db021, gb021, h_r0, h_r1, h_r2⟩⟩
          rintro _ ⟨ux, uy, rfl⟩
          try simp only [Act.put, List.setIfInBounds_toArray, List.set_cons_zero, List.set_cons_succ]
          refine Reg.wpS7_val (fun wq hq => ?gs6x7) ?ks6x7
          case gs6x7 => (obtain ⟨hs, hG, db000, db001, db010, gb010, db011, gb011, db020, gb020, db021, gb021, h_r0, h_r1, h_r2⟩ := hq.out; go_simp; first | done | (with_reducible rfl) | rfl)
          try simp only [Act.put, List.setIfInBounds_toArray, List.set_cons_zero, List.set_cons_succ]
          refine Reg.wpS7_val (fun wq hq => ?gs6x8) ?ks6x8
          case gs6x8 => (obtain ⟨hs, hG, db000, db001, db010, gb010, db011, gb011, db020, gb020, db021, gb021, h_r0, h_r1, h_r2⟩ := hq.out; go_simp; first | done | (with_reducible rfl) | rfl)
          try simp only [Act.put, List.setIfInBounds_toArray, List.set_cons_zero, List.set_cons_succ]
          refine Reg.wpS7_val (fun wq hq => ?gs6x9) ?ks6x9
          case gs6x9 => (obtain ⟨hs, hG, db000, db001, db010, gb010, db011, gb011, db020, gb020, db021, gb021, h_r0, h_r1, h_r2⟩ := hq.out; go_simp; first | done | (with_reducible rfl) | rfl)
          try simp only [Act.put, List.setIfInBounds_toArray, List.set_cons_zero, List.set_cons_succ]
          refine Reg.wpS7_step (fun wq hq => ?gs6x10) ?ks6x10
          case gs6x10 =>
            obtain ⟨hs, hG, db000, db001, db010, gb010, db011, gb011, db020, gb020, db021, gb021, h_r0, h_r1, h_r2⟩ := hq.out
            refine Reg.sAt7_call (f := 86) (args := #[.pointer (some ⟨bs, 0, none⟩), .int .i64 p, .agg #[.int .i64 bx, .int .i64 by_]]) (by go_simp) ?_
            refine (badPoint_any _ _ _ B bs v _ hs).mono ?_
            rintro e w' ⟨⟨q0, q1, rfl⟩, hs', hG'⟩
            replace h_r0 := h_r0.grown hG' (by omega)
            replace h_r1 := h_r1.grown hG' (by omega)
            replace h_r2 := h_r2.grown hG' (by omega)
            replace gb010 := frozenG hG' db010 (by dsimp only <;> omega) gb010
            replace gb011 := frozenG hG' db011 (by dsimp only <;> omega) gb011
            replace gb020 := frozenG hG' db020 (by dsimp only <;> omega) gb020
            replace gb021 := frozenG hG' db021 (by dsimp only <;> omega) gb021
            replace db000 := cellG hG' db000 (by dsimp only <;> omega)
            replace db001 := cellG hG' db001 (by dsimp only <;> omega)
            replace db010 := cellG hG' db010 (by dsimp only <;> omega)
            replace db011 := cellG hG' db011 (by dsimp only <;> omega)
            replace db020 := cellG hG' db020 (by dsimp only <;> omega)
            replace db021 := cellG hG' db021 (by dsimp only <;> omega)
            replace hs := hs'
            replace hG := grownBy_trans hG hG'
            clear hs' hG'
            exact ⟨_, rfl, ⟨_, _, rfl⟩, hid ⟨hs, hG, db000, db001, db010, gb010, db011, gb011, db020, gb020, db021, gb021, h_r0, h_r1, h_r2⟩⟩
          rintro _ ⟨vx, vy, rfl⟩
          try simp only [Act.put, List.setIfInBounds_toArray, List.set_cons_zero, List.set_cons_succ]
          refine Reg.wpS7_val (fun wq hq => ?gs6x11) ?ks6x11
          case gs6x11 => (obtain ⟨hs, hG, db000, db001, db010, gb010, db011, gb011, db020, gb020, db021, gb021, h_r0, h_r1, h_r2⟩ := hq.out; go_simp; first | done | (with_reducible rfl) | rfl)
          try simp only [Act.put, List.setIfInBounds_toArray, List.set_cons_zero, List.set_cons_succ]
          refine Reg.wpS7_val (fun wq hq => ?gs6x12) ?ks6x12
          case gs6x12 => (obtain ⟨hs, hG, db000, db001, db010, gb010, db011, gb011, db020, gb020, db021, gb021, h_r0, h_r1, h_r2⟩ := hq.out; go_simp; first | done | (with_reducible rfl) | rfl)
          try simp only [Act.put, List.setIfInBounds_toArray, List.set_cons_zero, List.set_cons_succ]
          refine Reg.wpS7_val (fun wq hq => ?gs6x13) ?ks6x13
          case gs6x13 => (obtain ⟨hs, hG, db000, db001, db010, gb010, db011, gb011, db020, gb020, db021, gb021, h_r0, h_r1, h_r2⟩ := hq.out; go_simp; first | done | (with_reducible rfl) | rfl)
          try simp only [Act.put, List.setIfInBounds_toArray, List.set_cons_zero, List.set_cons_succ]
          refine Reg.wpS7_step (fun wq hq => ?gs6x14) ?ks6x14
          case gs6x14 =>
            obtain ⟨hs, hG, db000, db001, db010, gb010, db011, gb011, db020, gb020, db021, gb021, h_r0, h_r1, h_r2⟩ := hq.out
            refine Reg.sAt7_call (f := 86) (args := #[.pointer (some ⟨bs, 0, none⟩), .int .i64 p, .agg #[.int .i64 cx, .int .i64 cy]]) (by go_simp) ?_
            refine (badPoint_any _ _ _ B bs v _ hs).mono ?_
            rintro e w' ⟨⟨q0, q1, rfl⟩, hs', hG'⟩
            replace h_r0 := h_r0.grown hG' (by omega)
            replace h_r1 := h_r1.grown hG' (by omega)
            replace h_r2 := h_r2.grown hG' (by omega)
            replace gb010 := frozenG hG' db010 (by dsimp only <;> omega) gb010
            replace gb011 := frozenG hG' db011 (by dsimp only <;> omega) gb011
            replace gb020 := frozenG hG' db020 (by dsimp only <;> omega) gb020
            replace gb021 := frozenG hG' db021 (by dsimp only <;> omega) gb021
            replace db000 := cellG hG' db000 (by dsimp only <;> omega)
            replace db001 := cellG hG' db001 (by dsimp only <;> omega)
            replace db010 := cellG hG' db010 (by dsimp only <;> omega)
            replace db011 := cellG hG' db011 (by dsimp only <;> omega)
            replace db020 := cellG hG' db020 (by dsimp only <;> omega)
            replace db021 := cellG hG' db021 (by dsimp only <;> omega)
            replace hs := hs'
            replace hG := grownBy_trans hG hG'
            clear hs' hG'
            exact ⟨_, rfl, ⟨_, _, rfl⟩, hid ⟨hs, hG, db000, db001, db010, gb010, db011, gb011, db020, gb020, db021, gb021, h_r0, h_r1, h_r2⟩⟩
          rintro _ ⟨xx, xy, rfl⟩
          try simp only [Act.put, List.setIfInBounds_toArray, List.set_cons_zero, List.set_cons_succ]
          refine Reg.wpS7_step (fun wq hq => ?gs6x15) ?ks6x15
          case gs6x15 => exact Reg.sAt7_val (v := .int .i64 uf) (by go_simp; first | done | rfl) ⟨_, rfl⟩ hq
          rintro _ ⟨uf2, rfl⟩
          try simp only [Act.put, List.setIfInBounds_toArray, List.set_cons_zero, List.set_cons_succ]
          refine Reg.wpS7_skip rfl (fun wq hq => ?gs6x16) ?ks6x16
          case gs6x16 =>
            obtain ⟨hs, hG, db000, db001, db010, gb010, db011, gb011, db020, gb020, db021, gb021, h_r0, h_r1, h_r2⟩ := hq.out
            have hres := h_r0
            obtain ⟨_, ⟨x0, cc0⟩, ⟨x1, cc1⟩, hz⟩ := h_r0
            have ff0 := hz 0 (by omega)
            have ff1 := hz 1 (by omega)
            exact ⟨put2 wq (w.heap.size) (ux) (uy), by unfold put2; go_simp, hid ⟨hs.put (put2_heap _ _ _ _) (put2_size _ _ _ _) (by omega) (by omega), grown_put2 hG (by omega) _ _, cellP (put2_heap _ _ _ _) db000 (by dsimp only <;> omega), cellP (put2_heap _ _ _ _) db001 (by dsimp only <;> omega), cellP (put2_heap _ _ _ _) db010 (by dsimp only <;> omega), frozenP (put2_heap _ _ _ _) gb010 (by dsimp only <;> omega), cellP (put2_heap _ _ _ _) db011 (by dsimp only <;> omega), frozenP (put2_heap _ _ _ _) gb011 (by dsimp only <;> omega), cellP (put2_heap _ _ _ _) db020 (by dsimp only <;> omega), frozenP (put2_heap _ _ _ _) gb020 (by dsimp only <;> omega), cellP (put2_heap _ _ _ _) db021 (by dsimp only <;> omega), frozenP (put2_heap _ _ _ _) gb021 (by dsimp only <;> omega), hres.put _ _, h_r1.heap (by rw [put2_size]; exact Nat.le_refl _) (put2_heap _ _ _ _ _ (by omega)), h_r2.heap (by rw [put2_size]; exact Nat.le_refl _) (put2_heap _ _ _ _ _ (by omega))⟩⟩
          try simp only [Act.put, List.setIfInBounds_toArray, List.set_cons_zero, List.set_cons_succ]
          refine Reg.wpS7_skip rfl (fun wq hq => ?gs6x17) ?ks6x17
          case gs6x17 =>
            obtain ⟨hs, hG, db000, db001, db010, gb010, db011, gb011, db020, gb020, db021, gb021, h_r0, h_r1, h_r2⟩ := hq.out
            have hres := h_r1
            obtain ⟨_, ⟨x0, cc0⟩, ⟨x1, cc1⟩, hz⟩ := h_r1
            have ff0 := hz 0 (by omega)
            have ff1 := hz 1 (by omega)
            exact ⟨put2 wq (w.heap.size + 1) (vx) (vy), by unfold put2; go_simp, hid ⟨hs.put (put2_heap _ _ _ _) (put2_size _ _ _ _) (by omega) (by omega), grown_put2 hG (by omega) _ _, cellP (put2_heap _ _ _ _) db000 (by dsimp only <;> omega), cellP (put2_heap _ _ _ _) db001 (by dsimp only <;> omega), cellP (put2_heap _ _ _ _) db010 (by dsimp only <;> omega), frozenP (put2_heap _ _ _ _) gb010 (by dsimp only <;> omega), cellP (put2_heap _ _ _ _) db011 (by dsimp only <;> omega), frozenP (put2_heap _ _ _ _) gb011 (by dsimp only <;> omega), cellP (put2_heap _ _ _ _) db020 (by dsimp only <;> omega), frozenP (put2_heap _ _ _ _) gb020 (by dsimp only <;> omega), cellP (put2_heap _ _ _ _) db021 (by dsimp only <;> omega), frozenP (put2_heap _ _ _ _) gb021 (by dsimp only <;> omega), h_r0.heap (by rw [put2_size]; exact Nat.le_refl _) (put2_heap _ _ _ _ _ (by omega)), hres.put _ _, h_r2.heap (by rw [put2_size]; exact Nat.le_refl _) (put2_heap _ _ _ _ _ (by omega))⟩⟩
          try simp only [Act.put, List.setIfInBounds_toArray, List.set_cons_zero, List.set_cons_succ]
          refine Reg.wpS7_skip rfl (fun wq hq => ?gs6x18) ?ks6x18
          case gs6x18 =>
            obtain ⟨hs, hG, db000, db001, db010, gb010, db011, gb011, db020, gb020, db021, gb021, h_r0, h_r1, h_r2⟩ := hq.out
            have hres := h_r2
            obtain ⟨_, ⟨x0, cc0⟩, ⟨x1, cc1⟩, hz⟩ := h_r2
            have ff0 := hz 0 (by omega)
            have ff1 := hz 1 (by omega)
            exact ⟨put2 wq (w.heap.size + 1 + 1) (xx) (xy), by unfold put2; go_simp, hid ⟨hs.put (put2_heap _ _ _ _) (put2_size _ _ _ _) (by omega) (by omega), grown_put2 hG (by omega) _ _, cellP (put2_heap _ _ _ _) db000 (by dsimp only <;> omega), cellP (put2_heap _ _ _ _) db001 (by dsimp only <;> omega), cellP (put2_heap _ _ _ _) db010 (by dsimp only <;> omega), frozenP (put2_heap _ _ _ _) gb010 (by dsimp only <;> omega), cellP (put2_heap _ _ _ _) db011 (by dsimp only <;> omega), frozenP (put2_heap _ _ _ _) gb011 (by dsimp only <;> omega), cellP (put2_heap _ _ _ _) db020 (by dsimp only <;> omega), frozenP (put2_heap _ _ _ _) gb020 (by dsimp only <;> omega), cellP (put2_heap _ _ _ _) db021 (by dsimp only <;> omega), frozenP (put2_heap _ _ _ _) gb021 (by dsimp only <;> omega), h_r0.heap (by rw [put2_size]; exact Nat.le_refl _) (put2_heap _ _ _ _ _ (by omega)), h_r1.heap (by rw [put2_size]; exact Nat.le_refl _) (put2_heap _ _ _ _ _ (by omega)), hres.put _ _⟩⟩
          try simp only [Act.put, List.setIfInBounds_toArray, List.set_cons_zero, List.set_cons_succ]
          intro w2 hq
          obtain ⟨hs, hG, db000, db001, db010, gb010, db011, gb011, db020, gb020, db021, gb021, h_r0, h_r1, h_r2⟩ := hq.out
          clear hq
          change wpList _ _ _ _ _ _
          obtain ⟨_, ⟨x00, cr00⟩, ⟨x01, cr01⟩, _⟩ := h_r0
          obtain ⟨_, ⟨x10, cr10⟩, ⟨x11, cr11⟩, _⟩ := h_r1
          obtain ⟨_, ⟨x20, cr20⟩, ⟨x21, cr21⟩, _⟩ := h_r2
          go_wp2_with fail
          try simp only [Exit.inBlock, Exit.then]
          refine bodyPost_ret (by simp [results, Tryz.results49, go_sem, cr00, cr01, cr10, cr11, cr20, cr21]; try rfl) rfl ?_
          exact ⟨⟨_, _, _, _, _, _, _, rfl⟩, by have hBf := below_grown (Below.refl w.heap.size w) hG (by omega) (by omega); first | exact hBf | (rw [hbs]; exact hBf) | go_grown⟩
      · go_wp2_with fail
        have h_r0 : Res2 _ (w.heap.size) := ⟨World.block_lt_of_cell? _ _ dr00, ⟨_, dr00⟩, ⟨_, dr01⟩, fun j hj => by match j, hj with | 0, _ => exact gr00 | 1, _ => exact gr01⟩
        have h_r1 : Res2 _ (w.heap.size + 1) := ⟨World.block_lt_of_cell? _ _ dr10, ⟨_, dr10⟩, ⟨_, dr11⟩, fun j hj => by match j, hj with | 0, _ => exact gr10 | 1, _ => exact gr11⟩
        have h_r2 : Res2 _ (w.heap.size + 1 + 1) := ⟨World.block_lt_of_cell? _ _ dr20, ⟨_, dr20⟩, ⟨_, dr21⟩, fun j hj => by match j, hj with | 0, _ => exact gr20 | 1, _ => exact gr21⟩
        clear dr00 gr00 dr01 gr01 dr10 gr10 dr11 gr11 dr20 gr20 dr21 gr21
        refine Reg.wp_region_steps7 (by kernel_rfl) 19 (by kernel_rfl) (fun wq => Hid (Src wq B bs v ∧ w.grownBy wq (some bs) ∧ wq.cell? ⟨r_0, 0, none⟩ = some (.int .i64 ax) ∧ wq.cell? ⟨r_0, 1, none⟩ = some (.int .i64 ay) ∧ wq.cell? ⟨r_0 + 1, 0, none⟩ = some (.int .i64 bx) ∧ wq.frozen? ⟨r_0 + 1, 0, none⟩ = false ∧ wq.cell? ⟨r_0 + 1, 1, none⟩ = some (.int .i64 by_) ∧ wq.frozen? ⟨r_0 + 1, 1, none⟩ = false ∧ wq.cell? ⟨r_0 + 1 + 1, 0, none⟩ = some (.int .i64 cx) ∧ wq.frozen? ⟨r_0 + 1 + 1, 0, none⟩ = false ∧ wq.cell? ⟨r_0 + 1 + 1, 1, none⟩ = some (.int .i64 cy) ∧ wq.frozen? ⟨r_0 + 1 + 1, 1, none⟩ = false ∧ Res2 wq (w.heap.size) ∧ Res2 wq (w.heap.size + 1) ∧ Res2 wq (w.heap.size + 1 + 1))) [(fun v => v = .pointer (some ⟨bs, 0, none⟩)), (fun v => v = .int .i64 p), IsI, (fun v => v = .pointer (some ⟨bs, 0, none⟩)), (fun v => v = .int .i64 p), (fun v => v = .agg #[.int .i64 ax, .int .i64 ay]), IsP, (fun v => v = .pointer (some ⟨bs, 0, none⟩)), (fun v => v = .int .i64 p), (fun v => v = .agg #[.int .i64 bx, .int .i64 by_]), IsP, (fun v => v = .pointer (some ⟨bs, 0, none⟩)), (fun v => v = .int .i64 p), (fun v => v = .agg #[.int .i64 cx, .int .i64 cy]), IsP, IsI, Reg.anyV, Reg.anyV, Reg.anyV] (Reg.inh_cons ⟨_, rfl⟩ (Reg.inh_cons ⟨_, rfl⟩ (Reg.inh_cons ⟨.int .i64 0, _, rfl⟩ (Reg.inh_cons ⟨_, rfl⟩ (Reg.inh_cons ⟨_, rfl⟩ (Reg.inh_cons ⟨_, rfl⟩ (Reg.inh_cons ⟨.agg #[.int .i64 0, .int .i64 0], _, _, rfl⟩ (Reg.inh_cons ⟨_, rfl⟩ (Reg.inh_cons ⟨_, rfl⟩ (Reg.inh_cons ⟨_, rfl⟩ (Reg.inh_cons ⟨.agg #[.int .i64 0, .int .i64 0], _, _, rfl⟩ (Reg.inh_cons ⟨_, rfl⟩ (Reg.inh_cons ⟨_, rfl⟩ (Reg.inh_cons ⟨_, rfl⟩ (Reg.inh_cons ⟨.agg #[.int .i64 0, .int .i64 0], _, _, rfl⟩ (Reg.inh_cons ⟨.int .i64 0, _, rfl⟩ (Reg.inh_cons ⟨undef, trivial⟩ (Reg.inh_cons ⟨undef, trivial⟩ (Reg.inh_cons ⟨undef, trivial⟩ (Reg.inh_nil)))))))))))))))))))) ?_ ?_
        · exact hid ⟨hs.drew, grownBy_drew hG, keepC (Below.refl _ _).drew db000, keepC (Below.refl _ _).drew db001, keepC (Below.refl _ _).drew db010, keepF (Below.refl _ _).drew db010 gb010, keepC (Below.refl _ _).drew db011, keepF (Below.refl _ _).drew db011 gb011, keepC (Below.refl _ _).drew db020, keepF (Below.refl _ _).drew db020 gb020, keepC (Below.refl _ _).drew db021, keepF (Below.refl _ _).drew db021 gb021, h_r0.keep (Below.refl _ _).drew, h_r1.keep (Below.refl _ _).drew, h_r2.keep (Below.refl _ _).drew⟩
        clear hs hG db000 db001 db010 gb010 db011 gb011 db020 gb020 db021 gb021 h_r0 h_r1 h_r2
        simp only [List.take_succ_cons, List.take_zero, List.drop_succ_cons, List.drop_zero]
        refine Reg.wpS7_val (fun wq hq => ?gs7x0) ?ks7x0
        case gs7x0 => (obtain ⟨hs, hG, db000, db001, db010, gb010, db011, gb011, db020, gb020, db021, gb021, h_r0, h_r1, h_r2⟩ := hq.out; go_simp; first | done | (with_reducible rfl) | rfl)
        try simp only [Act.put, List.setIfInBounds_toArray, List.set_cons_zero, List.set_cons_succ]
        refine Reg.wpS7_val (fun wq hq => ?gs7x1) ?ks7x1
        case gs7x1 => (obtain ⟨hs, hG, db000, db001, db010, gb010, db011, gb011, db020, gb020, db021, gb021, h_r0, h_r1, h_r2⟩ := hq.out; go_simp; first | done | (with_reducible rfl) | rfl)
        try simp only [Act.put, List.setIfInBounds_toArray, List.set_cons_zero, List.set_cons_succ]
        refine Reg.wpS7_step (fun wq hq => ?gs7x2) ?ks7x2
        case gs7x2 =>
          obtain ⟨hs, hG, db000, db001, db010, gb010, db011, gb011, db020, gb020, db021, gb021, h_r0, h_r1, h_r2⟩ := hq.out
          refine Reg.sAt7_call (f := 77) (args := #[.pointer (some ⟨bs, 0, none⟩), .int .i64 p]) (by go_simp) ?_
          refine (badField_any _ B bs v _ hs).mono ?_
          rintro e w' ⟨⟨q0, rfl⟩, hs', hG'⟩
          replace h_r0 := h_r0.grown hG' (by omega)
          replace h_r1 := h_r1.grown hG' (by omega)
          replace h_r2 := h_r2.grown hG' (by omega)
          replace gb010 := frozenG hG' db010 (by dsimp only <;> omega) gb010
          replace gb011 := frozenG hG' db011 (by dsimp only <;> omega) gb011
          replace gb020 := frozenG hG' db020 (by dsimp only <;> omega) gb020
          replace gb021 := frozenG hG' db021 (by dsimp only <;> omega) gb021
          replace db000 := cellG hG' db000 (by dsimp only <;> omega)
          replace db001 := cellG hG' db001 (by dsimp only <;> omega)
          replace db010 := cellG hG' db010 (by dsimp only <;> omega)
          replace db011 := cellG hG' db011 (by dsimp only <;> omega)
          replace db020 := cellG hG' db020 (by dsimp only <;> omega)
          replace db021 := cellG hG' db021 (by dsimp only <;> omega)
          replace hs := hs'
          replace hG := grownBy_trans hG hG'
          clear hs' hG'
          exact ⟨_, rfl, ⟨_, rfl⟩, hid ⟨hs, hG, db000, db001, db010, gb010, db011, gb011, db020, gb020, db021, gb021, h_r0, h_r1, h_r2⟩⟩
        rintro _ ⟨uf, rfl⟩
        try simp only [Act.put, List.setIfInBounds_toArray, List.set_cons_zero, List.set_cons_succ]
        refine Reg.wpS7_val (fun wq hq => ?gs7x3) ?ks7x3
        case gs7x3 => (obtain ⟨hs, hG, db000, db001, db010, gb010, db011, gb011, db020, gb020, db021, gb021, h_r0, h_r1, h_r2⟩ := hq.out; go_simp; first | done | (with_reducible rfl) | rfl)
        try simp only [Act.put, List.setIfInBounds_toArray, List.set_cons_zero, List.set_cons_succ]
        refine Reg.wpS7_val (fun wq hq => ?gs7x4) ?ks7x4
        case gs7x4 => (obtain ⟨hs, hG, db000, db001, db010, gb010, db011, gb011, db020, gb020, db021, gb021, h_r0, h_r1, h_r2⟩ := hq.out; go_simp; first | done | (with_reducible rfl) | rfl)
        try simp only [Act.put, List.setIfInBounds_toArray, List.set_cons_zero, List.set_cons_succ]
        refine Reg.wpS7_val (fun wq hq => ?gs7x5) ?ks7x5
        case gs7x5 => (obtain ⟨hs, hG, db000, db001, db010, gb010, db011, gb011, db020, gb020, db021, gb021, h_r0, h_r1, h_r2⟩ := hq.out; go_simp; first | done | (with_reducible rfl) | rfl)
        try simp only [Act.put, List.setIfInBounds_toArray, List.set_cons_zero, List.set_cons_succ]
        refine Reg.wpS7_step (fun wq hq => ?gs7x6) ?ks7x6
        case gs7x6 =>
          obtain ⟨hs, hG, db000, db001, db010, gb010, db011, gb011, db020, gb020, db021, gb021, h_r0, h_r1, h_r2⟩ := hq.out
          refine Reg.sAt7_call (f := 86) (args := #[.pointer (some ⟨bs, 0, none⟩), .int .i64 p, .agg #[.int .i64 ax, .int .i64 ay]]) (by go_simp) ?_
          refine (badPoint_any _ _ _ B bs v _ hs).mono ?_
          rintro e w' ⟨⟨q0, q1, rfl⟩, hs', hG'⟩
          replace h_r0 := h_r0.grown hG' (by omega)
          replace h_r1 := h_r1.grown hG' (by omega)
          replace h_r2 := h_r2.grown hG' (by omega)
          replace gb010 := frozenG hG' db010 (by dsimp only <;> omega) gb010
          replace gb011 := frozenG hG' db011 (by dsimp only <;> omega) gb011
          replace gb020 := frozenG hG' db020 (by dsimp only <;> omega) gb020
          replace gb021 := frozenG hG' db021 (by dsimp only <;> omega) gb021
          replace db000 := cellG hG' db000 (by dsimp only <;> omega)
          replace db001 := cellG hG' db001 (by dsimp only <;> omega)
          replace db010 := cellG hG' db010 (by dsimp only <;> omega)
          replace db011 := cellG hG' db011 (by dsimp only <;> omega)
          replace db020 := cellG hG' db020 (by dsimp only <;> omega)
          replace db021 := cellG hG' db021 (by dsimp only <;> omega)
          replace hs := hs'
          replace hG := grownBy_trans hG hG'
          clear hs' hG'
          exact ⟨_, rfl, ⟨_, _, rfl⟩, hid ⟨hs, hG, db000, db001, db010, gb010, db011, gb011, db020, gb020, db021, gb021, h_r0, h_r1, h_r2⟩⟩
        rintro _ ⟨ux, uy, rfl⟩
        try simp only [Act.put, List.setIfInBounds_toArray, List.set_cons_zero, List.set_cons_succ]
        refine Reg.wpS7_val (fun wq hq => ?gs7x7) ?ks7x7
        case gs7x7 => (obtain ⟨hs, hG, db000, db001, db010, gb010, db011, gb011, db020, gb020, db021, gb021, h_r0, h_r1, h_r2⟩ := hq.out; go_simp; first | done | (with_reducible rfl) | rfl)
        try simp only [Act.put, List.setIfInBounds_toArray, List.set_cons_zero, List.set_cons_succ]
        refine Reg.wpS7_val (fun wq hq => ?gs7x8) ?ks7x8
        case gs7x8 => (obtain ⟨hs, hG, db000, db001, db010, gb010, db011, gb011, db020, gb020, db021, gb021, h_r0, h_r1, h_r2⟩ := hq.out; go_simp; first | done | (with_reducible rfl) | rfl)
        try simp only [Act.put, List.setIfInBounds_toArray, List.set_cons_zero, List.set_cons_succ]
        refine Reg.wpS7_val (fun wq hq => ?gs7x9) ?ks7x9
        case gs7x9 => (obtain ⟨hs, hG, db000, db001, db010, gb010, db011, gb011, db020, gb020, db021, gb021, h_r0, h_r1, h_r2⟩ := hq.out; go_simp; first | done | (with_reducible rfl) | rfl)
        try simp only [Act.put, List.setIfInBounds_toArray, List.set_cons_zero, List.set_cons_succ]
        refine Reg.wpS7_step (fun wq hq => ?gs7x10) ?ks7x10
        case gs7x10 =>
          obtain ⟨hs, hG, db000, db001, db010, gb010, db011, gb011, db020, gb020, db021, gb021, h_r0, h_r1, h_r2⟩ := hq.out
          refine Reg.sAt7_call (f := 86) (args := #[.pointer (some ⟨bs, 0, none⟩), .int .i64 p, .agg #[.int .i64 bx, .int .i64 by_]]) (by go_simp) ?_
          refine (badPoint_any _ _ _ B bs v _ hs).mono ?_
          rintro e w' ⟨⟨q0, q1, rfl⟩, hs', hG'⟩
          replace h_r0 := h_r0.grown hG' (by omega)
          replace h_r1 := h_r1.grown hG' (by omega)
          replace h_r2 := h_r2.grown hG' (by omega)
          replace gb010 := frozenG hG' db010 (by dsimp only <;> omega) gb010
          replace gb011 := frozenG hG' db011 (by dsimp only <;> omega) gb011
          replace gb020 := frozenG hG' db020 (by dsimp only <;> omega) gb020
          replace gb021 := frozenG hG' db021 (by dsimp only <;> omega) gb021
          replace db000 := cellG hG' db000 (by dsimp only <;> omega)
          replace db001 := cellG hG' db001 (by dsimp only <;> omega)
          replace db010 := cellG hG' db010 (by dsimp only <;> omega)
          replace db011 := cellG hG' db011 (by dsimp only <;> omega)
          replace db020 := cellG hG' db020 (by dsimp only <;> omega)
          replace db021 := cellG hG' db021 (by dsimp only <;> omega)
          replace hs := hs'
          replace hG := grownBy_trans hG hG'
          clear hs' hG'
          exact ⟨_, rfl, ⟨_, _, rfl⟩, hid ⟨hs, hG, db000, db001, db010, gb010, db011, gb011, db020, gb020, db021, gb021, h_r0, h_r1, h_r2⟩⟩
        rintro _ ⟨vx, vy, rfl⟩
        try simp only [Act.put, List.setIfInBounds_toArray, List.set_cons_zero, List.set_cons_succ]
        refine Reg.wpS7_val (fun wq hq => ?gs7x11) ?ks7x11
        case gs7x11 => (obtain ⟨hs, hG, db000, db001, db010, gb010, db011, gb011, db020, gb020, db021, gb021, h_r0, h_r1, h_r2⟩ := hq.out; go_simp; first | done | (with_reducible rfl) | rfl)
        try simp only [Act.put, List.setIfInBounds_toArray, List.set_cons_zero, List.set_cons_succ]
        refine Reg.wpS7_val (fun wq hq => ?gs7x12) ?ks7x12
        case gs7x12 => (obtain ⟨hs, hG, db000, db001, db010, gb010, db011, gb011, db020, gb020, db021, gb021, h_r0, h_r1, h_r2⟩ := hq.out; go_simp; first | done | (with_reducible rfl) | rfl)
        try simp only [Act.put, List.setIfInBounds_toArray, List.set_cons_zero, List.set_cons_succ]
        refine Reg.wpS7_val (fun wq hq => ?gs7x13) ?ks7x13
        case gs7x13 => (obtain ⟨hs, hG, db000, db001, db010, gb010, db011, gb011, db020, gb020, db021, gb021, h_r0, h_r1, h_r2⟩ := hq.out; go_simp; first | done | (with_reducible rfl) | rfl)
        try simp only [Act.put, List.setIfInBounds_toArray, List.set_cons_zero, List.set_cons_succ]
        refine Reg.wpS7_step (fun wq hq => ?gs7x14) ?ks7x14
        case gs7x14 =>
          obtain ⟨hs, hG, db000, db001, db010, gb010, db011, gb011, db020, gb020, db021, gb021, h_r0, h_r1, h_r2⟩ := hq.out
          refine Reg.sAt7_call (f := 86) (args := #[.pointer (some ⟨bs, 0, none⟩), .int .i64 p, .agg #[.int .i64 cx, .int .i64 cy]]) (by go_simp) ?_
          refine (badPoint_any _ _ _ B bs v _ hs).mono ?_
          rintro e w' ⟨⟨q0, q1, rfl⟩, hs', hG'⟩
          replace h_r0 := h_r0.grown hG' (by omega)
          replace h_r1 := h_r1.grown hG' (by omega)
          replace h_r2 := h_r2.grown hG' (by omega)
          replace gb010 := frozenG hG' db010 (by dsimp only <;> omega) gb010
          replace gb011 := frozenG hG' db011 (by dsimp only <;> omega) gb011
          replace gb020 := frozenG hG' db020 (by dsimp only <;> omega) gb020
          replace gb021 := frozenG hG' db021 (by dsimp only <;> omega) gb021
          replace db000 := cellG hG' db000 (by dsimp only <;> omega)
          replace db001 := cellG hG' db001 (by dsimp only <;> omega)
          replace db010 := cellG hG' db010 (by dsimp only <;> omega)
          replace db011 := cellG hG' db011 (by dsimp only <;> omega)
          replace db020 := cellG hG' db020 (by dsimp only <;> omega)
          replace db021 := cellG hG' db021 (by dsimp only <;> omega)
          replace hs := hs'
          replace hG := grownBy_trans hG hG'
          clear hs' hG'
          exact ⟨_, rfl, ⟨_, _, rfl⟩, hid ⟨hs, hG, db000, db001, db010, gb010, db011, gb011, db020, gb020, db021, gb021, h_r0, h_r1, h_r2⟩⟩
        rintro _ ⟨xx, xy, rfl⟩
        try simp only [Act.put, List.setIfInBounds_toArray, List.set_cons_zero, List.set_cons_succ]
        refine Reg.wpS7_step (fun wq hq => ?gs7x15) ?ks7x15
        case gs7x15 => exact Reg.sAt7_val (v := .int .i64 uf) (by go_simp; first | done | rfl) ⟨_, rfl⟩ hq
        rintro _ ⟨uf2, rfl⟩
        try simp only [Act.put, List.setIfInBounds_toArray, List.set_cons_zero, List.set_cons_succ]
        refine Reg.wpS7_skip rfl (fun wq hq => ?gs7x16) ?ks7x16
        case gs7x16 =>
          obtain ⟨hs, hG, db000, db001, db010, gb010, db011, gb011, db020, gb020, db021, gb021, h_r0, h_r1, h_r2⟩ := hq.out
          have hres := h_r0
          obtain ⟨_, ⟨x0, cc0⟩, ⟨x1, cc1⟩, hz⟩ := h_r0
          have ff0 := hz 0 (by omega)
          have ff1 := hz 1 (by omega)
          exact ⟨put2 wq (w.heap.size) (ux) (uy), by unfold put2; go_simp, hid ⟨hs.put (put2_heap _ _ _ _) (put2_size _ _ _ _) (by omega) (by omega), grown_put2 hG (by omega) _ _, cellP (put2_heap _ _ _ _) db000 (by dsimp only <;> omega), cellP (put2_heap _ _ _ _) db001 (by dsimp only <;> omega), cellP (put2_heap _ _ _ _) db010 (by dsimp only <;> omega), frozenP (put2_heap _ _ _ _) gb010 (by dsimp only <;> omega), cellP (put2_heap _ _ _ _) db011 (by dsimp only <;> omega), frozenP (put2_heap _ _ _ _) gb011 (by dsimp only <;> omega), cellP (put2_heap _ _ _ _) db020 (by dsimp only <;> omega), frozenP (put2_heap _ _ _ _) gb020 (by dsimp only <;> omega), cellP (put2_heap _ _ _ _) db021 (by dsimp only <;> omega), frozenP (put2_heap _ _ _ _) gb021 (by dsimp only <;> omega), hres.put _ _, h_r1.heap (by rw [put2_size]; exact Nat.le_refl _) (put2_heap _ _ _ _ _ (by omega)), h_r2.heap (by rw [put2_size]; exact Nat.le_refl _) (put2_heap _ _ _ _ _ (by omega))⟩⟩
        try simp only [Act.put, List.setIfInBounds_toArray, List.set_cons_zero, List.set_cons_succ]
        refine Reg.wpS7_skip rfl (fun wq hq => ?gs7x17) ?ks7x17
        case gs7x17 =>
          obtain ⟨hs, hG, db000, db001, db010, gb010, db011, gb011, db020, gb020, db021, gb021, h_r0, h_r1, h_r2⟩ := hq.out
          have hres := h_r1
          obtain ⟨_, ⟨x0, cc0⟩, ⟨x1, cc1⟩, hz⟩ := h_r1
          have ff0 := hz 0 (by omega)
          have ff1 := hz 1 (by omega)
          exact ⟨put2 wq (w.heap.size + 1) (vx) (vy), by unfold put2; go_simp, hid ⟨hs.put (put2_heap _ _ _ _) (put2_size _ _ _ _) (by omega) (by omega), grown_put2 hG (by omega) _ _, cellP (put2_heap _ _ _ _) db000 (by dsimp only <;> omega), cellP (put2_heap _ _ _ _) db001 (by dsimp only <;> omega), cellP (put2_heap _ _ _ _) db010 (by dsimp only <;> omega), frozenP (put2_heap _ _ _ _) gb010 (by dsimp only <;> omega), cellP (put2_heap _ _ _ _) db011 (by dsimp only <;> omega), frozenP (put2_heap _ _ _ _) gb011 (by dsimp only <;> omega), cellP (put2_heap _ _ _ _) db020 (by dsimp only <;> omega), frozenP (put2_heap _ _ _ _) gb020 (by dsimp only <;> omega), cellP (put2_heap _ _ _ _) db021 (by dsimp only <;> omega), frozenP (put2_heap _ _ _ _) gb021 (by dsimp only <;> omega), h_r0.heap (by rw [put2_size]; exact Nat.le_refl _) (put2_heap _ _ _ _ _ (by omega)), hres.put _ _, h_r2.heap (by rw [put2_size]; exact Nat.le_refl _) (put2_heap _ _ _ _ _ (by omega))⟩⟩
        try simp only [Act.put, List.setIfInBounds_toArray, List.set_cons_zero, List.set_cons_succ]
        refine Reg.wpS7_skip rfl (fun wq hq => ?gs7x18) ?ks7x18
        case gs7x18 =>
          obtain ⟨hs, hG, db000, db001, db010, gb010, db011, gb011, db020, gb020, db021, gb021, h_r0, h_r1, h_r2⟩ := hq.out
          have hres := h_r2
          obtain ⟨_, ⟨x0, cc0⟩, ⟨x1, cc1⟩, hz⟩ := h_r2
          have ff0 := hz 0 (by omega)
          have ff1 := hz 1 (by omega)
          exact ⟨put2 wq (w.heap.size + 1 + 1) (xx) (xy), by unfold put2; go_simp, hid ⟨hs.put (put2_heap _ _ _ _) (put2_size _ _ _ _) (by omega) (by omega), grown_put2 hG (by omega) _ _, cellP (put2_heap _ _ _ _) db000 (by dsimp only <;> omega), cellP (put2_heap _ _ _ _) db001 (by dsimp only <;> omega), cellP (put2_heap _ _ _ _) db010 (by dsimp only <;> omega), frozenP (put2_heap _ _ _ _) gb010 (by dsimp only <;> omega), cellP (put2_heap _ _ _ _) db011 (by dsimp only <;> omega), frozenP (put2_heap _ _ _ _) gb011 (by dsimp only <;> omega), cellP (put2_heap _ _ _ _) db020 (by dsimp only <;> omega), frozenP (put2_heap _ _ _ _) gb020 (by dsimp only <;> omega), cellP (put2_heap _ _ _ _) db021 (by dsimp only <;> omega), frozenP (put2_heap _ _ _ _) gb021 (by dsimp only <;> omega), h_r0.heap (by rw [put2_size]; exact Nat.le_refl _) (put2_heap _ _ _ _ _ (by omega)), h_r1.heap (by rw [put2_size]; exact Nat.le_refl _) (put2_heap _ _ _ _ _ (by omega)), hres.put _ _⟩⟩
        try simp only [Act.put, List.setIfInBounds_toArray, List.set_cons_zero, List.set_cons_succ]
        intro w2 hq
        obtain ⟨hs, hG, db000, db001, db010, gb010, db011, gb011, db020, gb020, db021, gb021, h_r0, h_r1, h_r2⟩ := hq.out
        clear hq
        change wpList _ _ _ _ _ _
        obtain ⟨_, ⟨x00, cr00⟩, ⟨x01, cr01⟩, _⟩ := h_r0
        obtain ⟨_, ⟨x10, cr10⟩, ⟨x11, cr11⟩, _⟩ := h_r1
        obtain ⟨_, ⟨x20, cr20⟩, ⟨x21, cr21⟩, _⟩ := h_r2
        go_wp2_with fail
        try simp only [Exit.inBlock, Exit.then]
        refine bodyPost_ret (by simp [results, Tryz.results49, go_sem, cr00, cr01, cr10, cr11, cr20, cr21]; try rfl) rfl ?_
        exact ⟨⟨_, _, _, _, _, _, _, rfl⟩, by have hBf := below_grown (Below.refl w.heap.size w) hG (by omega) (by omega); first | exact hBf | (rw [hbs]; exact hBf) | go_grown⟩
theorem flag1_any (v : Value) (w : World) (hv : Bytes w w.heap.size v) :
    Calls Tryz.prog 62 #[v] w fun e w' => (∃ o0 o1x o1y o2a o2b o2c : Int, e = .returned (.tuple #[.int .i64 o0, .agg #[.int .i64 o1x, .int .i64 o1y], .agg #[.int .i64 o2a, .int .i64 o2b, .int .i64 o2c]])) ∧ Below w.heap.size w w' := by
  obtain ⟨B, hBw⟩ : ∃ B, B = w.heap.size := ⟨_, rfl⟩
  have hv0 : Bytes w B v := by rw [hBw]; exact hv
  clear hv
  go_enter Tryz.func62, Tryz.ntmps62
  go_wp2_with fail
  generalize hW : (World.alloc (World.alloc w (.cells #[.int .i64 0, .int .i64 0] 29)) (.cells #[.int .i64 0, .int .i64 0, .int .i64 0] 44)) = W
  have dr00 : W.cell? ⟨w.heap.size, 0, none⟩ = some (.int .i64 0) := by subst hW; go_simp
  have gr00 : W.frozen? ⟨w.heap.size, 0, none⟩ = false := by subst hW; go_simp
  have dr01 : W.cell? ⟨w.heap.size, 1, none⟩ = some (.int .i64 0) := by subst hW; go_simp
  have gr01 : W.frozen? ⟨w.heap.size, 1, none⟩ = false := by subst hW; go_simp
  have dr10 : W.cell? ⟨w.heap.size + 1, 0, none⟩ = some (.int .i64 0) := by subst hW; go_simp
  have gr10 : W.frozen? ⟨w.heap.size + 1, 0, none⟩ = false := by subst hW; go_simp
  have dr11 : W.cell? ⟨w.heap.size + 1, 1, none⟩ = some (.int .i64 0) := by subst hW; go_simp
  have gr11 : W.frozen? ⟨w.heap.size + 1, 1, none⟩ = false := by subst hW; go_simp
  have dr12 : W.cell? ⟨w.heap.size + 1, 2, none⟩ = some (.int .i64 0) := by subst hW; go_simp
  have gr12 : W.frozen? ⟨w.heap.size + 1, 2, none⟩ = false := by subst hW; go_simp
  have hv1 : Bytes W B v := by subst hW; exact ((hv0).alloc _).alloc _
  have hB : Below w.heap.size w W := by subst hW; go_grown
  have hbs : w.heap.size + 2 ≤ W.heap.size := by subst hW; simp
  clear hW hv0
  refine (from_any v B W hv1 (by omega)).mono ?_
  rintro e w1 ⟨rfl, hs, hbn⟩
  replace gr00 := keepF hbn dr00 gr00
  replace gr01 := keepF hbn dr01 gr01
  replace gr10 := keepF hbn dr10 gr10
  replace gr11 := keepF hbn dr11 gr11
  replace gr12 := keepF hbn dr12 gr12
  replace dr00 := keepC hbn dr00
  replace dr01 := keepC hbn dr01
  replace dr10 := keepC hbn dr10
  replace dr11 := keepC hbn dr11
  replace dr12 := keepC hbn dr12
  have hG : w.grownBy w1 (some W.heap.size) := grown_below (below_of hB hbn hB.size)
  clear hB hbn hv1
  generalize W.heap.size = bs at *
  clear W
  have hlow := hs.low
  go_wp2_with fail
  go_wp2_with fail
  refine (drawField_any B bs v _ hs).mono ?_
  rintro e w' ⟨⟨p, rfl, hpm⟩, hs', hG'⟩
  replace gr00 := frozenG hG' dr00 (by dsimp only <;> omega) gr00
  replace gr01 := frozenG hG' dr01 (by dsimp only <;> omega) gr01
  replace gr10 := frozenG hG' dr10 (by dsimp only <;> omega) gr10
  replace gr11 := frozenG hG' dr11 (by dsimp only <;> omega) gr11
  replace gr12 := frozenG hG' dr12 (by dsimp only <;> omega) gr12
  replace dr00 := cellG hG' dr00 (by dsimp only <;> omega)
  replace dr01 := cellG hG' dr01 (by dsimp only <;> omega)
  replace dr10 := cellG hG' dr10 (by dsimp only <;> omega)
  replace dr11 := cellG hG' dr11 (by dsimp only <;> omega)
  replace dr12 := cellG hG' dr12 (by dsimp only <;> omega)
  replace hs := hs'
  replace hG := grownBy_trans hG hG'
  clear hs' hG'
  have hf := field_of hpm
  have hp := Pl.field_bd hf
  obtain ⟨hp1, hp2⟩ := hp
  clear hpm
  go_wp2_with fail
  refine (drawPoint_any p (by omega) B bs v _ hs).mono ?_
  rintro e w' ⟨⟨ax, ay, rfl, ax1, ax2, ay1, ay2⟩, hs', hG'⟩
  replace gr00 := frozenG hG' dr00 (by dsimp only <;> omega) gr00
  replace gr01 := frozenG hG' dr01 (by dsimp only <;> omega) gr01
  replace gr10 := frozenG hG' dr10 (by dsimp only <;> omega) gr10
  replace gr11 := frozenG hG' dr11 (by dsimp only <;> omega) gr11
  replace gr12 := frozenG hG' dr12 (by dsimp only <;> omega) gr12
  replace dr00 := cellG hG' dr00 (by dsimp only <;> omega)
  replace dr01 := cellG hG' dr01 (by dsimp only <;> omega)
  replace dr10 := cellG hG' dr10 (by dsimp only <;> omega)
  replace dr11 := cellG hG' dr11 (by dsimp only <;> omega)
  replace dr12 := cellG hG' dr12 (by dsimp only <;> omega)
  replace hs := hs'
  replace hG := grownBy_trans hG hG'
  clear hs' hG'
  go_wp2_with fail
  refine (drawLine_any p (by omega) (by omega) B bs v _ hs).mono ?_
  rintro e w' ⟨⟨la, lb, lc, rfl, hl, lb1, lb2, lc1, lc2⟩, hs', hG'⟩
  replace gr00 := frozenG hG' dr00 (by dsimp only <;> omega) gr00
  replace gr01 := frozenG hG' dr01 (by dsimp only <;> omega) gr01
  replace gr10 := frozenG hG' dr10 (by dsimp only <;> omega) gr10
  replace gr11 := frozenG hG' dr11 (by dsimp only <;> omega) gr11
  replace gr12 := frozenG hG' dr12 (by dsimp only <;> omega) gr12
  replace dr00 := cellG hG' dr00 (by dsimp only <;> omega)
  replace dr01 := cellG hG' dr01 (by dsimp only <;> omega)
  replace dr10 := cellG hG' dr10 (by dsimp only <;> omega)
  replace dr11 := cellG hG' dr11 (by dsimp only <;> omega)
  replace dr12 := cellG hG' dr12 (by dsimp only <;> omega)
  replace hs := hs'
  replace hG := grownBy_trans hG hG'
  clear hs' hG'
  go_wp2_with fail
  generalize hW : (World.alloc (World.alloc w' (.cells #[.int .i64 ax, .int .i64 ay] 29)) (.cells #[.int .i64 la, .int .i64 lb, .int .i64 lc] 44)) = W3
  have db000 : W3.cell? ⟨w'.heap.size, 0, none⟩ = some (.int .i64 ax) := by subst hW; go_simp
  have db001 : W3.cell? ⟨w'.heap.size, 1, none⟩ = some (.int .i64 ay) := by subst hW; go_simp
  have db010 : W3.cell? ⟨w'.heap.size + 1, 0, none⟩ = some (.int .i64 la) := by subst hW; go_simp
  have gb010 : W3.frozen? ⟨w'.heap.size + 1, 0, none⟩ = false := by subst hW; go_simp
  have db011 : W3.cell? ⟨w'.heap.size + 1, 1, none⟩ = some (.int .i64 lb) := by subst hW; go_simp
  have gb011 : W3.frozen? ⟨w'.heap.size + 1, 1, none⟩ = false := by subst hW; go_simp
  have db012 : W3.cell? ⟨w'.heap.size + 1, 2, none⟩ = some (.int .i64 lc) := by subst hW; go_simp
  have gb012 : W3.frozen? ⟨w'.heap.size + 1, 2, none⟩ = false := by subst hW; go_simp
  have hbn : Below w'.heap.size w' W3 := by subst hW; go_grown
  replace gr00 := keepF hbn dr00 gr00
  replace gr01 := keepF hbn dr01 gr01
  replace gr10 := keepF hbn dr10 gr10
  replace gr11 := keepF hbn dr11 gr11
  replace gr12 := keepF hbn dr12 gr12
  replace dr00 := keepC hbn dr00
  replace dr01 := keepC hbn dr01
  replace dr10 := keepC hbn dr10
  replace dr11 := keepC hbn dr11
  replace dr12 := keepC hbn dr12
  have hlt0 := hs.lt
  replace hs := hs.keep hbn
  replace hG := grownBy_trans hG (grown_below hbn)
  clear hW hbn
  generalize w'.heap.size = r_0 at *
  clear w'
  refine (next_any 2 B bs v _ hs).mono ?_
  rintro e w' ⟨⟨q, rfl, hq0, hq1, _⟩, hs', hG'⟩
  replace gr00 := frozenG hG' dr00 (by dsimp only <;> omega) gr00
  replace gr01 := frozenG hG' dr01 (by dsimp only <;> omega) gr01
  replace gr10 := frozenG hG' dr10 (by dsimp only <;> omega) gr10
  replace gr11 := frozenG hG' dr11 (by dsimp only <;> omega) gr11
  replace gr12 := frozenG hG' dr12 (by dsimp only <;> omega) gr12
  replace gb010 := frozenG hG' db010 (by dsimp only <;> omega) gb010
  replace gb011 := frozenG hG' db011 (by dsimp only <;> omega) gb011
  replace gb012 := frozenG hG' db012 (by dsimp only <;> omega) gb012
  replace dr00 := cellG hG' dr00 (by dsimp only <;> omega)
  replace dr01 := cellG hG' dr01 (by dsimp only <;> omega)
  replace dr10 := cellG hG' dr10 (by dsimp only <;> omega)
  replace dr11 := cellG hG' dr11 (by dsimp only <;> omega)
  replace dr12 := cellG hG' dr12 (by dsimp only <;> omega)
  replace db000 := cellG hG' db000 (by dsimp only <;> omega)
  replace db001 := cellG hG' db001 (by dsimp only <;> omega)
  replace db010 := cellG hG' db010 (by dsimp only <;> omega)
  replace db011 := cellG hG' db011 (by dsimp only <;> omega)
  replace db012 := cellG hG' db012 (by dsimp only <;> omega)
  replace hs := hs'
  replace hG := grownBy_trans hG hG'
  clear hs' hG'
  have hql := hq1 (by omega)
  clear hq1
  by_cases hz : q = 0
  · subst hz
    go_wp2_with fail
    refine (l01Parallel_any p la lb lc ax ay _ (by omega) (by omega) (by omega) (by omega) (by omega) (by omega) (by omega) (by omega) (by omega) (by omega) (by omega) (by omega)).mono ?_
    rintro e w' ⟨rfl, hbn⟩
    replace gr00 := keepF hbn dr00 gr00
    replace gr01 := keepF hbn dr01 gr01
    replace gr10 := keepF hbn dr10 gr10
    replace gr11 := keepF hbn dr11 gr11
    replace gr12 := keepF hbn dr12 gr12
    replace gb010 := keepF hbn db010 gb010
    replace gb011 := keepF hbn db011 gb011
    replace gb012 := keepF hbn db012 gb012
    replace dr00 := keepC hbn dr00
    replace dr01 := keepC hbn dr01
    replace dr10 := keepC hbn dr10
    replace dr11 := keepC hbn dr11
    replace dr12 := keepC hbn dr12
    replace db000 := keepC hbn db000
    replace db001 := keepC hbn db001
    replace db010 := keepC hbn db010
    replace db011 := keepC hbn db011
    replace db012 := keepC hbn db012
    replace hs := hs.keep hbn
    replace hG := grownBy_trans hG (grown_below hbn)
    clear hbn
    generalize (-(la * ax + lb * ay)) % p = lx at *
    go_wp2_with fail
    generalize hW : (World.setCell (World.setCell (World.setCell w' ⟨r_0 + 1, 0, none⟩ (.int .i64 la)) ⟨r_0 + 1, 1, none⟩ (.int .i64 lb)) ⟨r_0 + 1, 2, none⟩ (.int .i64 lx)) = W4
    have hP : ∀ k, k ≠ r_0 + 1 → W4.heap[k]? = w'.heap[k]? := by subst hW; exact put3_heap _ _ _ _ _
    have hZ : W4.heap.size = w'.heap.size := by subst hW; exact put3_size _ _ _ _ _
    have ndb010 : W4.cell? ⟨r_0 + 1, 0, none⟩ = some (.int .i64 la) := by subst hW; simp [World.cell?_setCell_other, World.cell?_setCell_same, db010, db011, db012]
    have ndb011 : W4.cell? ⟨r_0 + 1, 1, none⟩ = some (.int .i64 lb) := by subst hW; simp [World.cell?_setCell_other, World.cell?_setCell_same, db010, db011, db012]
    have ndb012 : W4.cell? ⟨r_0 + 1, 2, none⟩ = some (.int .i64 lx) := by subst hW; simp [World.cell?_setCell_other, World.cell?_setCell_same, db010, db011, db012]
    have ngb010 : W4.frozen? ⟨r_0 + 1, 0, none⟩ = false := by subst hW; simp [gb010]
    have ngb011 : W4.frozen? ⟨r_0 + 1, 1, none⟩ = false := by subst hW; simp [gb011]
    have ngb012 : W4.frozen? ⟨r_0 + 1, 2, none⟩ = false := by subst hW; simp [gb012]
    have hG2 : w.grownBy W4 (some bs) := by subst hW; exact grown_put3 hG (by omega) _ _ _
    replace hs := hs.put hP hZ (by omega) (by omega)
    replace hG := hG2
    clear hG2
    replace dr00 := cellP hP dr00 (by dsimp only <;> omega)
    replace gr00 := frozenP hP gr00 (by dsimp only <;> omega)
    replace dr01 := cellP hP dr01 (by dsimp only <;> omega)
    replace gr01 := frozenP hP gr01 (by dsimp only <;> omega)
    replace dr10 := cellP hP dr10 (by dsimp only <;> omega)
    replace gr10 := frozenP hP gr10 (by dsimp only <;> omega)
    replace dr11 := cellP hP dr11 (by dsimp only <;> omega)
    replace gr11 := frozenP hP gr11 (by dsimp only <;> omega)
    replace dr12 := cellP hP dr12 (by dsimp only <;> omega)
    replace gr12 := frozenP hP gr12 (by dsimp only <;> omega)
    replace db000 := cellP hP db000 (by dsimp only <;> omega)
    replace db001 := cellP hP db001 (by dsimp only <;> omega)
    replace db010 := ndb010
    clear ndb010
    replace gb010 := ngb010
    clear ngb010
    replace db011 := ndb011
    clear ndb011
    replace gb011 := ngb011
    clear ngb011
    replace db012 := ndb012
    clear ndb012
    replace gb012 := ngb012
    clear ngb012
    clear hP hZ hW
    go_wp2_with fail
    have h_r0 : Res2 _ (w.heap.size) := ⟨World.block_lt_of_cell? _ _ dr00, ⟨_, dr00⟩, ⟨_, dr01⟩, fun j hj => by match j, hj with | 0, _ => exact gr00 | 1, _ => exact gr01⟩
    have h_r1 : Res3 _ (w.heap.size + 1) := ⟨World.block_lt_of_cell? _ _ dr10, ⟨_, dr10⟩, ⟨_, dr11⟩, ⟨_, dr12⟩, fun j hj => by match j, hj with | 0, _ => exact gr10 | 1, _ => exact gr11 | 2, _ => exact gr12⟩
    clear dr00 gr00 dr01 gr01 dr10 gr10 dr11 gr11 dr12 gr12
    refine Reg.wp_region_steps7 (by kernel_rfl) 14 (by kernel_rfl) (fun wq => Hid (Src wq B bs v ∧ w.grownBy wq (some bs) ∧ wq.cell? ⟨r_0, 0, none⟩ = some (.int .i64 ax) ∧ wq.cell? ⟨r_0, 1, none⟩ = some (.int .i64 ay) ∧ wq.cell? ⟨r_0 + 1, 0, none⟩ = some (.int .i64 la) ∧ wq.frozen? ⟨r_0 + 1, 0, none⟩ = false ∧ wq.cell? ⟨r_0 + 1, 1, none⟩ = some (.int .i64 lb) ∧ wq.frozen? ⟨r_0 + 1, 1, none⟩ = false ∧ wq.cell? ⟨r_0 + 1, 2, none⟩ = some (.int .i64 lx) ∧ wq.frozen? ⟨r_0 + 1, 2, none⟩ = false ∧ Res2 wq (w.heap.size) ∧ Res3 wq (w.heap.size + 1))) [(fun v => v = .pointer (some ⟨bs, 0, none⟩)), (fun v => v = .int .i64 p), IsI, (fun v => v = .pointer (some ⟨bs, 0, none⟩)), (fun v => v = .int .i64 p), (fun v => v = .agg #[.int .i64 ax, .int .i64 ay]), IsP, (fun v => v = .pointer (some ⟨bs, 0, none⟩)), (fun v => v = .int .i64 p), (fun v => v = .agg #[.int .i64 la, .int .i64 lb, .int .i64 lx]), IsL, IsI, Reg.anyV, Reg.anyV] (Reg.inh_cons ⟨_, rfl⟩ (Reg.inh_cons ⟨_, rfl⟩ (Reg.inh_cons ⟨.int .i64 0, _, rfl⟩ (Reg.inh_cons ⟨_, rfl⟩ (Reg.inh_cons ⟨_, rfl⟩ (Reg.inh_cons ⟨_, rfl⟩ (Reg.inh_cons ⟨.agg #[.int .i64 0, .int .i64 0], _, _, rfl⟩ (Reg.inh_cons ⟨_, rfl⟩ (Reg.inh_cons ⟨_, rfl⟩ (Reg.inh_cons ⟨_, rfl⟩ (Reg.inh_cons ⟨.agg #[.int .i64 0, .int .i64 0, .int .i64 0], _, _, _, rfl⟩ (Reg.inh_cons ⟨.int .i64 0, _, rfl⟩ (Reg.inh_cons ⟨undef, trivial⟩ (Reg.inh_cons ⟨undef, trivial⟩ (Reg.inh_nil))))))))))))))) ?_ ?_
    · exact hid ⟨hs.drew, grownBy_drew hG, keepC (Below.refl _ _).drew db000, keepC (Below.refl _ _).drew db001, keepC (Below.refl _ _).drew db010, keepF (Below.refl _ _).drew db010 gb010, keepC (Below.refl _ _).drew db011, keepF (Below.refl _ _).drew db011 gb011, keepC (Below.refl _ _).drew db012, keepF (Below.refl _ _).drew db012 gb012, h_r0.keep (Below.refl _ _).drew, h_r1.keep (Below.refl _ _).drew⟩
    clear hs hG db000 db001 db010 gb010 db011 gb011 db012 gb012 h_r0 h_r1
    simp only [List.take_succ_cons, List.take_zero, List.drop_succ_cons, List.drop_zero]
    refine Reg.wpS7_val (fun wq hq => ?gs8x0) ?ks8x0
    case gs8x0 => (obtain ⟨hs, hG, db000, db001, db010, gb010, db011, gb011, db012, gb012, h_r0, h_r1⟩ := hq.out; go_simp; first | done | (with_reducible rfl) | rfl)
    try simp only [Act.put, List.setIfInBounds_toArray, List.set_cons_zero, List.set_cons_succ]
    refine Reg.wpS7_val (fun wq hq => ?gs8x1) ?ks8x1
    case gs8x1 => (obtain ⟨hs, hG, db000, db001, db010, gb010, db011, gb011, db012, gb012, h_r0, h_r1⟩ := hq.out; go_simp; first | done | (with_reducible rfl) | rfl)
    try simp only [Act.put, List.setIfInBounds_toArray, List.set_cons_zero, List.set_cons_succ]
    refine Reg.wpS7_step (fun wq hq => ?gs8x2) ?ks8x2
    case gs8x2 =>
      obtain ⟨hs, hG, db000, db001, db010, gb010, db011, gb011, db012, gb012, h_r0, h_r1⟩ := hq.out
      refine Reg.sAt7_call (f := 77) (args := #[.pointer (some ⟨bs, 0, none⟩), .int .i64 p]) (by go_simp) ?_
      refine (badField_any _ B bs v _ hs).mono ?_
      rintro e w' ⟨⟨q0, rfl⟩, hs', hG'⟩
      replace h_r0 := h_r0.grown hG' (by omega)
      replace h_r1 := h_r1.grown hG' (by omega)
      replace gb010 := frozenG hG' db010 (by dsimp only <;> omega) gb010
      replace gb011 := frozenG hG' db011 (by dsimp only <;> omega) gb011
      replace gb012 := frozenG hG' db012 (by dsimp only <;> omega) gb012
      replace db000 := cellG hG' db000 (by dsimp only <;> omega)
      replace db001 := cellG hG' db001 (by dsimp only <;> omega)
      replace db010 := cellG hG' db010 (by dsimp only <;> omega)
      replace db011 := cellG hG' db011 (by dsimp only <;> omega)
      replace db012 := cellG hG' db012 (by dsimp only <;> omega)
      replace hs := hs'
      replace hG := grownBy_trans hG hG'
      clear hs' hG'
      exact ⟨_, rfl, ⟨_, rfl⟩, hid ⟨hs, hG, db000, db001, db010, gb010, db011, gb011, db012, gb012, h_r0, h_r1⟩⟩
    rintro _ ⟨uf, rfl⟩
    try simp only [Act.put, List.setIfInBounds_toArray, List.set_cons_zero, List.set_cons_succ]
    refine Reg.wpS7_val (fun wq hq => ?gs8x3) ?ks8x3
    case gs8x3 => (obtain ⟨hs, hG, db000, db001, db010, gb010, db011, gb011, db012, gb012, h_r0, h_r1⟩ := hq.out; go_simp; first | done | (with_reducible rfl) | rfl)
    try simp only [Act.put, List.setIfInBounds_toArray, List.set_cons_zero, List.set_cons_succ]
    refine Reg.wpS7_val (fun wq hq => ?gs8x4) ?ks8x4
    case gs8x4 => (obtain ⟨hs, hG, db000, db001, db010, gb010, db011, gb011, db012, gb012, h_r0, h_r1⟩ := hq.out; go_simp; first | done | (with_reducible rfl) | rfl)
    try simp only [Act.put, List.setIfInBounds_toArray, List.set_cons_zero, List.set_cons_succ]
    refine Reg.wpS7_val (fun wq hq => ?gs8x5) ?ks8x5
    case gs8x5 => (obtain ⟨hs, hG, db000, db001, db010, gb010, db011, gb011, db012, gb012, h_r0, h_r1⟩ := hq.out; go_simp; first | done | (with_reducible rfl) | rfl)
    try simp only [Act.put, List.setIfInBounds_toArray, List.set_cons_zero, List.set_cons_succ]
    refine Reg.wpS7_step (fun wq hq => ?gs8x6) ?ks8x6
    case gs8x6 =>
      obtain ⟨hs, hG, db000, db001, db010, gb010, db011, gb011, db012, gb012, h_r0, h_r1⟩ := hq.out
      refine Reg.sAt7_call (f := 86) (args := #[.pointer (some ⟨bs, 0, none⟩), .int .i64 p, .agg #[.int .i64 ax, .int .i64 ay]]) (by go_simp) ?_
      refine (badPoint_any _ _ _ B bs v _ hs).mono ?_
      rintro e w' ⟨⟨q0, q1, rfl⟩, hs', hG'⟩
      replace h_r0 := h_r0.grown hG' (by omega)
      replace h_r1 := h_r1.grown hG' (by omega)
      replace gb010 := frozenG hG' db010 (by dsimp only <;> omega) gb010
      replace gb011 := frozenG hG' db011 (by dsimp only <;> omega) gb011
      replace gb012 := frozenG hG' db012 (by dsimp only <;> omega) gb012
      replace db000 := cellG hG' db000 (by dsimp only <;> omega)
      replace db001 := cellG hG' db001 (by dsimp only <;> omega)
      replace db010 := cellG hG' db010 (by dsimp only <;> omega)
      replace db011 := cellG hG' db011 (by dsimp only <;> omega)
      replace db012 := cellG hG' db012 (by dsimp only <;> omega)
      replace hs := hs'
      replace hG := grownBy_trans hG hG'
      clear hs' hG'
      exact ⟨_, rfl, ⟨_, _, rfl⟩, hid ⟨hs, hG, db000, db001, db010, gb010, db011, gb011, db012, gb012, h_r0, h_r1⟩⟩
    rintro _ ⟨ux, uy, rfl⟩
    try simp only [Act.put, List.setIfInBounds_toArray, List.set_cons_zero, List.set_cons_succ]
    refine Reg.wpS7_val (fun wq hq => ?gs8x7) ?ks8x7
    case gs8x7 => (obtain ⟨hs, hG, db000, db001, db010, gb010, db011, gb011, db012, gb012, h_r0, h_r1⟩ := hq.out; go_simp; first | done | (with_reducible rfl) | rfl)
    try simp only [Act.put, List.setIfInBounds_toArray, List.set_cons_zero, List.set_cons_succ]
    refine Reg.wpS7_val (fun wq hq => ?gs8x8) ?ks8x8
    case gs8x8 => (obtain ⟨hs, hG, db000, db001, db010, gb010, db011, gb011, db012, gb012, h_r0, h_r1⟩ := hq.out; go_simp; first | done | (with_reducible rfl) | rfl)
    try simp only [Act.put, List.setIfInBounds_toArray, List.set_cons_zero, List.set_cons_succ]
    refine Reg.wpS7_val (fun wq hq => ?gs8x9) ?ks8x9
    case gs8x9 => (obtain ⟨hs, hG, db000, db001, db010, gb010, db011, gb011, db012, gb012, h_r0, h_r1⟩ := hq.out; go_simp; first | done | (with_reducible rfl) | rfl)
    try simp only [Act.put, List.setIfInBounds_toArray, List.set_cons_zero, List.set_cons_succ]
    refine Reg.wpS7_step (fun wq hq => ?gs8x10) ?ks8x10
    case gs8x10 =>
      obtain ⟨hs, hG, db000, db001, db010, gb010, db011, gb011, db012, gb012, h_r0, h_r1⟩ := hq.out
      refine Reg.sAt7_call (f := 91) (args := #[.pointer (some ⟨bs, 0, none⟩), .int .i64 p, .agg #[.int .i64 la, .int .i64 lb, .int .i64 lx]]) (by go_simp) ?_
      refine (badLine_any _ _ _ _ B bs v _ hs).mono ?_
      rintro e w' ⟨⟨q0, q1, q2, rfl⟩, hs', hG'⟩
      replace h_r0 := h_r0.grown hG' (by omega)
      replace h_r1 := h_r1.grown hG' (by omega)
      replace gb010 := frozenG hG' db010 (by dsimp only <;> omega) gb010
      replace gb011 := frozenG hG' db011 (by dsimp only <;> omega) gb011
      replace gb012 := frozenG hG' db012 (by dsimp only <;> omega) gb012
      replace db000 := cellG hG' db000 (by dsimp only <;> omega)
      replace db001 := cellG hG' db001 (by dsimp only <;> omega)
      replace db010 := cellG hG' db010 (by dsimp only <;> omega)
      replace db011 := cellG hG' db011 (by dsimp only <;> omega)
      replace db012 := cellG hG' db012 (by dsimp only <;> omega)
      replace hs := hs'
      replace hG := grownBy_trans hG hG'
      clear hs' hG'
      exact ⟨_, rfl, ⟨_, _, _, rfl⟩, hid ⟨hs, hG, db000, db001, db010, gb010, db011, gb011, db012, gb012, h_r0, h_r1⟩⟩
    rintro _ ⟨xa, xb, xc, rfl⟩
    try simp only [Act.put, List.setIfInBounds_toArray, List.set_cons_zero, List.set_cons_succ]
    refine Reg.wpS7_step (fun wq hq => ?gs8x11) ?ks8x11
    case gs8x11 => exact Reg.sAt7_val (v := .int .i64 uf) (by go_simp; first | done | rfl) ⟨_, rfl⟩ hq
    rintro _ ⟨uf2, rfl⟩
    try simp only [Act.put, List.setIfInBounds_toArray, List.set_cons_zero, List.set_cons_succ]
    refine Reg.wpS7_skip rfl (fun wq hq => ?gs8x12) ?ks8x12
    case gs8x12 =>
      obtain ⟨hs, hG, db000, db001, db010, gb010, db011, gb011, db012, gb012, h_r0, h_r1⟩ := hq.out
      have hres := h_r0
      obtain ⟨_, ⟨x0, cc0⟩, ⟨x1, cc1⟩, hz⟩ := h_r0
      have ff0 := hz 0 (by omega)
      have ff1 := hz 1 (by omega)
      exact ⟨put2 wq (w.heap.size) (ux) (uy), by unfold put2; go_simp, hid ⟨hs.put (put2_heap _ _ _ _) (put2_size _ _ _ _) (by omega) (by omega), grown_put2 hG (by omega) _ _, cellP (put2_heap _ _ _ _) db000 (by dsimp only <;> omega), cellP (put2_heap _ _ _ _) db001 (by dsimp only <;> omega), cellP (put2_heap _ _ _ _) db010 (by dsimp only <;> omega), frozenP (put2_heap _ _ _ _) gb010 (by dsimp only <;> omega), cellP (put2_heap _ _ _ _) db011 (by dsimp only <;> omega), frozenP (put2_heap _ _ _ _) gb011 (by dsimp only <;> omega), cellP (put2_heap _ _ _ _) db012 (by dsimp only <;> omega), frozenP (put2_heap _ _ _ _) gb012 (by dsimp only <;> omega), hres.put _ _, h_r1.heap (by rw [put2_size]; exact Nat.le_refl _) (put2_heap _ _ _ _ _ (by omega))⟩⟩
    try simp only [Act.put, List.setIfInBounds_toArray, List.set_cons_zero, List.set_cons_succ]
    refine Reg.wpS7_skip rfl (fun wq hq => ?gs8x13) ?ks8x13
    case gs8x13 =>
      obtain ⟨hs, hG, db000, db001, db010, gb010, db011, gb011, db012, gb012, h_r0, h_r1⟩ := hq.out
      have hres := h_r1
      obtain ⟨_, ⟨x0, cc0⟩, ⟨x1, cc1⟩, ⟨x2, cc2⟩, hz⟩ := h_r1
      have ff0 := hz 0 (by omega)
      have ff1 := hz 1 (by omega)
      have ff2 := hz 2 (by omega)
      exact ⟨put3 wq (w.heap.size + 1) (xa) (xb) (xc), by unfold put3; go_simp, hid ⟨hs.put (put3_heap _ _ _ _ _) (put3_size _ _ _ _ _) (by omega) (by omega), grown_put3 hG (by omega) _ _ _, cellP (put3_heap _ _ _ _ _) db000 (by dsimp only <;> omega), cellP (put3_heap _ _ _ _ _) db001 (by dsimp only <;> omega), cellP (put3_heap _ _ _ _ _) db010 (by dsimp only <;> omega), frozenP (put3_heap _ _ _ _ _) gb010 (by dsimp only <;> omega), cellP (put3_heap _ _ _ _ _) db011 (by dsimp only <;> omega), frozenP (put3_heap _ _ _ _ _) gb011 (by dsimp only <;> omega), cellP (put3_heap _ _ _ _ _) db012 (by dsimp only <;> omega), frozenP (put3_heap _ _ _ _ _) gb012 (by dsimp only <;> omega), h_r0.heap (by rw [put3_size]; exact Nat.le_refl _) (put3_heap _ _ _ _ _ _ (by omega)), hres.put _ _ _⟩⟩
    try simp only [Act.put, List.setIfInBounds_toArray, List.set_cons_zero, List.set_cons_succ]
    intro w2 hq
    obtain ⟨hs, hG, db000, db001, db010, gb010, db011, gb011, db012, gb012, h_r0, h_r1⟩ := hq.out
    clear hq
    change wpList _ _ _ _ _ _
    obtain ⟨_, ⟨x00, cr00⟩, ⟨x01, cr01⟩, _⟩ := h_r0
    obtain ⟨_, ⟨x10, cr10⟩, ⟨x11, cr11⟩, ⟨x12, cr12⟩, _⟩ := h_r1
    go_wp2_with fail
    try simp only [Exit.inBlock, Exit.then]
    refine bodyPost_ret (by simp [results, Tryz.results62, go_sem, cr00, cr01, cr10, cr11, cr12]; try rfl) rfl ?_
    exact ⟨⟨_, _, _, _, _, _, rfl⟩, by have hBf := below_grown (Below.refl w.heap.size w) hG (by omega) (by omega); first | exact hBf | (rw [hbs]; exact hBf) | go_grown⟩
  · go_wp2_with fail
    have h_r0 : Res2 _ (w.heap.size) := ⟨World.block_lt_of_cell? _ _ dr00, ⟨_, dr00⟩, ⟨_, dr01⟩, fun j hj => by match j, hj with | 0, _ => exact gr00 | 1, _ => exact gr01⟩
    have h_r1 : Res3 _ (w.heap.size + 1) := ⟨World.block_lt_of_cell? _ _ dr10, ⟨_, dr10⟩, ⟨_, dr11⟩, ⟨_, dr12⟩, fun j hj => by match j, hj with | 0, _ => exact gr10 | 1, _ => exact gr11 | 2, _ => exact gr12⟩
    clear dr00 gr00 dr01 gr01 dr10 gr10 dr11 gr11 dr12 gr12
    refine Reg.wp_region_steps7 (by kernel_rfl) 14 (by kernel_rfl) (fun wq => Hid (Src wq B bs v ∧ w.grownBy wq (some bs) ∧ wq.cell? ⟨r_0, 0, none⟩ = some (.int .i64 ax) ∧ wq.cell? ⟨r_0, 1, none⟩ = some (.int .i64 ay) ∧ wq.cell? ⟨r_0 + 1, 0, none⟩ = some (.int .i64 la) ∧ wq.frozen? ⟨r_0 + 1, 0, none⟩ = false ∧ wq.cell? ⟨r_0 + 1, 1, none⟩ = some (.int .i64 lb) ∧ wq.frozen? ⟨r_0 + 1, 1, none⟩ = false ∧ wq.cell? ⟨r_0 + 1, 2, none⟩ = some (.int .i64 lc) ∧ wq.frozen? ⟨r_0 + 1, 2, none⟩ = false ∧ Res2 wq (w.heap.size) ∧ Res3 wq (w.heap.size + 1))) [(fun v => v = .pointer (some ⟨bs, 0, none⟩)), (fun v => v = .int .i64 p), IsI, (fun v => v = .pointer (some ⟨bs, 0, none⟩)), (fun v => v = .int .i64 p), (fun v => v = .agg #[.int .i64 ax, .int .i64 ay]), IsP, (fun v => v = .pointer (some ⟨bs, 0, none⟩)), (fun v => v = .int .i64 p), (fun v => v = .agg #[.int .i64 la, .int .i64 lb, .int .i64 lc]), IsL, IsI, Reg.anyV, Reg.anyV] (Reg.inh_cons ⟨_, rfl⟩ (Reg.inh_cons ⟨_, rfl⟩ (Reg.inh_cons ⟨.int .i64 0, _, rfl⟩ (Reg.inh_cons ⟨_, rfl⟩ (Reg.inh_cons ⟨_, rfl⟩ (Reg.inh_cons ⟨_, rfl⟩ (Reg.inh_cons ⟨.agg #[.int .i64 0, .int .i64 0], _, _, rfl⟩ (Reg.inh_cons ⟨_, rfl⟩ (Reg.inh_cons ⟨_, rfl⟩ (Reg.inh_cons ⟨_, rfl⟩ (Reg.inh_cons ⟨.agg #[.int .i64 0, .int .i64 0, .int .i64 0], _, _, _, rfl⟩ (Reg.inh_cons ⟨.int .i64 0, _, rfl⟩ (Reg.inh_cons ⟨undef, trivial⟩ (Reg.inh_cons ⟨undef, trivial⟩ (Reg.inh_nil))))))))))))))) ?_ ?_
    · exact hid ⟨hs.drew, grownBy_drew hG, keepC (Below.refl _ _).drew db000, keepC (Below.refl _ _).drew db001, keepC (Below.refl _ _).drew db010, keepF (Below.refl _ _).drew db010 gb010, keepC (Below.refl _ _).drew db011, keepF (Below.refl _ _).drew db011 gb011, keepC (Below.refl _ _).drew db012, keepF (Below.refl _ _).drew db012 gb012, h_r0.keep (Below.refl _ _).drew, h_r1.keep (Below.refl _ _).drew⟩
    clear hs hG db000 db001 db010 gb010 db011 gb011 db012 gb012 h_r0 h_r1
    simp only [List.take_succ_cons, List.take_zero, List.drop_succ_cons, List.drop_zero]
    refine Reg.wpS7_val (fun wq hq => ?gs9x0) ?ks9x0
    case gs9x0 => (obtain ⟨hs, hG, db000, db001, db010, gb010, db011, gb011, db012, gb012, h_r0, h_r1⟩ := hq.out; go_simp; first | done | (with_reducible rfl) | rfl)
    try simp only [Act.put, List.setIfInBounds_toArray, List.set_cons_zero, List.set_cons_succ]
    refine Reg.wpS7_val (fun wq hq => ?gs9x1) ?ks9x1
    case gs9x1 => (obtain ⟨hs, hG, db000, db001, db010, gb010, db011, gb011, db012, gb012, h_r0, h_r1⟩ := hq.out; go_simp; first | done | (with_reducible rfl) | rfl)
    try simp only [Act.put, List.setIfInBounds_toArray, List.set_cons_zero, List.set_cons_succ]
    refine Reg.wpS7_step (fun wq hq => ?gs9x2) ?ks9x2
    case gs9x2 =>
      obtain ⟨hs, hG, db000, db001, db010, gb010, db011, gb011, db012, gb012, h_r0, h_r1⟩ := hq.out
      refine Reg.sAt7_call (f := 77) (args := #[.pointer (some ⟨bs, 0, none⟩), .int .i64 p]) (by go_simp) ?_
      refine (badField_any _ B bs v _ hs).mono ?_
      rintro e w' ⟨⟨q0, rfl⟩, hs', hG'⟩
      replace h_r0 := h_r0.grown hG' (by omega)
      replace h_r1 := h_r1.grown hG' (by omega)
      replace gb010 := frozenG hG' db010 (by dsimp only <;> omega) gb010
      replace gb011 := frozenG hG' db011 (by dsimp only <;> omega) gb011
      replace gb012 := frozenG hG' db012 (by dsimp only <;> omega) gb012
      replace db000 := cellG hG' db000 (by dsimp only <;> omega)
      replace db001 := cellG hG' db001 (by dsimp only <;> omega)
      replace db010 := cellG hG' db010 (by dsimp only <;> omega)
      replace db011 := cellG hG' db011 (by dsimp only <;> omega)
      replace db012 := cellG hG' db012 (by dsimp only <;> omega)
      replace hs := hs'
      replace hG := grownBy_trans hG hG'
      clear hs' hG'
      exact ⟨_, rfl, ⟨_, rfl⟩, hid ⟨hs, hG, db000, db001, db010, gb010, db011, gb011, db012, gb012, h_r0, h_r1⟩⟩
    rintro _ ⟨uf, rfl⟩
    try simp only [Act.put, List.setIfInBounds_toArray, List.set_cons_zero, List.set_cons_succ]
    refine Reg.wpS7_val (fun wq hq => ?gs9x3) ?ks9x3
    case gs9x3 => (obtain ⟨hs, hG, db000, db001, db010, gb010, db011, gb011, db012, gb012, h_r0, h_r1⟩ := hq.out; go_simp; first | done | (with_reducible rfl) | rfl)
    try simp only [Act.put, List.setIfInBounds_toArray, List.set_cons_zero, List.set_cons_succ]
    refine Reg.wpS7_val (fun wq hq => ?gs9x4) ?ks9x4
    case gs9x4 => (obtain ⟨hs, hG, db000, db001, db010, gb010, db011, gb011, db012, gb012, h_r0, h_r1⟩ := hq.out; go_simp; first | done | (with_reducible rfl) | rfl)
    try simp only [Act.put, List.setIfInBounds_toArray, List.set_cons_zero, List.set_cons_succ]
    refine Reg.wpS7_val (fun wq hq => ?gs9x5) ?ks9x5
    case gs9x5 => (obtain ⟨hs, hG, db000, db001, db010, gb010, db011, gb011, db012, gb012, h_r0, h_r1⟩ := hq.out; go_simp; first | done | (with_reducible rfl) | rfl)
    try simp only [Act.put, List.setIfInBounds_toArray, List.set_cons_zero, List.set_cons_succ]
    refine Reg.wpS7_step (fun wq hq => ?gs9x6) ?ks9x6
    case gs9x6 =>
      obtain ⟨hs, hG, db000, db001, db010, gb010, db011, gb011, db012, gb012, h_r0, h_r1⟩ := hq.out
      refine Reg.sAt7_call (f := 86) (args := #[.pointer (some ⟨bs, 0, none⟩), .int .i64 p, .agg #[.int .i64 ax, .int .i64 ay]]) (by go_simp) ?_
      refine (badPoint_any _ _ _ B bs v _ hs).mono ?_
      rintro e w' ⟨⟨q0, q1, rfl⟩, hs', hG'⟩
      replace h_r0 := h_r0.grown hG' (by omega)
      replace h_r1 := h_r1.grown hG' (by omega)
      replace gb010 := frozenG hG' db010 (by dsimp only <;> omega) gb010
      replace gb011 := frozenG hG' db011 (by dsimp only <;> omega) gb011
      replace gb012 := frozenG hG' db012 (by dsimp only <;> omega) gb012
      replace db000 := cellG hG' db000 (by dsimp only <;> omega)
      replace db001 := cellG hG' db001 (by dsimp only <;> omega)
      replace db010 := cellG hG' db010 (by dsimp only <;> omega)
      replace db011 := cellG hG' db011 (by dsimp only <;> omega)
      replace db012 := cellG hG' db012 (by dsimp only <;> omega)
      replace hs := hs'
      replace hG := grownBy_trans hG hG'
      clear hs' hG'
      exact ⟨_, rfl, ⟨_, _, rfl⟩, hid ⟨hs, hG, db000, db001, db010, gb010, db011, gb011, db012, gb012, h_r0, h_r1⟩⟩
    rintro _ ⟨ux, uy, rfl⟩
    try simp only [Act.put, List.setIfInBounds_toArray, List.set_cons_zero, List.set_cons_succ]
    refine Reg.wpS7_val (fun wq hq => ?gs9x7) ?ks9x7
    case gs9x7 => (obtain ⟨hs, hG, db000, db001, db010, gb010, db011, gb011, db012, gb012, h_r0, h_r1⟩ := hq.out; go_simp; first | done | (with_reducible rfl) | rfl)
    try simp only [Act.put, List.setIfInBounds_toArray, List.set_cons_zero, List.set_cons_succ]
    refine Reg.wpS7_val (fun wq hq => ?gs9x8) ?ks9x8
    case gs9x8 => (obtain ⟨hs, hG, db000, db001, db010, gb010, db011, gb011, db012, gb012, h_r0, h_r1⟩ := hq.out; go_simp; first | done | (with_reducible rfl) | rfl)
    try simp only [Act.put, List.setIfInBounds_toArray, List.set_cons_zero, List.set_cons_succ]
    refine Reg.wpS7_val (fun wq hq => ?gs9x9) ?ks9x9
    case gs9x9 => (obtain ⟨hs, hG, db000, db001, db010, gb010, db011, gb011, db012, gb012, h_r0, h_r1⟩ := hq.out; go_simp; first | done | (with_reducible rfl) | rfl)
    try simp only [Act.put, List.setIfInBounds_toArray, List.set_cons_zero, List.set_cons_succ]
    refine Reg.wpS7_step (fun wq hq => ?gs9x10) ?ks9x10
    case gs9x10 =>
      obtain ⟨hs, hG, db000, db001, db010, gb010, db011, gb011, db012, gb012, h_r0, h_r1⟩ := hq.out
      refine Reg.sAt7_call (f := 91) (args := #[.pointer (some ⟨bs, 0, none⟩), .int .i64 p, .agg #[.int .i64 la, .int .i64 lb, .int .i64 lc]]) (by go_simp) ?_
      refine (badLine_any _ _ _ _ B bs v _ hs).mono ?_
      rintro e w' ⟨⟨q0, q1, q2, rfl⟩, hs', hG'⟩
      replace h_r0 := h_r0.grown hG' (by omega)
      replace h_r1 := h_r1.grown hG' (by omega)
      replace gb010 := frozenG hG' db010 (by dsimp only <;> omega) gb010
      replace gb011 := frozenG hG' db011 (by dsimp only <;> omega) gb011
      replace gb012 := frozenG hG' db012 (by dsimp only <;> omega) gb012
      replace db000 := cellG hG' db000 (by dsimp only <;> omega)
      replace db001 := cellG hG' db001 (by dsimp only <;> omega)
      replace db010 := cellG hG' db010 (by dsimp only <;> omega)
      replace db011 := cellG hG' db011 (by dsimp only <;> omega)
      replace db012 := cellG hG' db012 (by dsimp only <;> omega)
      replace hs := hs'
      replace hG := grownBy_trans hG hG'
      clear hs' hG'
      exact ⟨_, rfl, ⟨_, _, _, rfl⟩, hid ⟨hs, hG, db000, db001, db010, gb010, db011, gb011, db012, gb012, h_r0, h_r1⟩⟩
    rintro _ ⟨xa, xb, xc, rfl⟩
    try simp only [Act.put, List.setIfInBounds_toArray, List.set_cons_zero, List.set_cons_succ]
    refine Reg.wpS7_step (fun wq hq => ?gs9x11) ?ks9x11
    case gs9x11 => exact Reg.sAt7_val (v := .int .i64 uf) (by go_simp; first | done | rfl) ⟨_, rfl⟩ hq
    rintro _ ⟨uf2, rfl⟩
    try simp only [Act.put, List.setIfInBounds_toArray, List.set_cons_zero, List.set_cons_succ]
    refine Reg.wpS7_skip rfl (fun wq hq => ?gs9x12) ?ks9x12
    case gs9x12 =>
      obtain ⟨hs, hG, db000, db001, db010, gb010, db011, gb011, db012, gb012, h_r0, h_r1⟩ := hq.out
      have hres := h_r0
      obtain ⟨_, ⟨x0, cc0⟩, ⟨x1, cc1⟩, hz⟩ := h_r0
      have ff0 := hz 0 (by omega)
      have ff1 := hz 1 (by omega)
      exact ⟨put2 wq (w.heap.size) (ux) (uy), by unfold put2; go_simp, hid ⟨hs.put (put2_heap _ _ _ _) (put2_size _ _ _ _) (by omega) (by omega), grown_put2 hG (by omega) _ _, cellP (put2_heap _ _ _ _) db000 (by dsimp only <;> omega), cellP (put2_heap _ _ _ _) db001 (by dsimp only <;> omega), cellP (put2_heap _ _ _ _) db010 (by dsimp only <;> omega), frozenP (put2_heap _ _ _ _) gb010 (by dsimp only <;> omega), cellP (put2_heap _ _ _ _) db011 (by dsimp only <;> omega), frozenP (put2_heap _ _ _ _) gb011 (by dsimp only <;> omega), cellP (put2_heap _ _ _ _) db012 (by dsimp only <;> omega), frozenP (put2_heap _ _ _ _) gb012 (by dsimp only <;> omega), hres.put _ _, h_r1.heap (by rw [put2_size]; exact Nat.le_refl _) (put2_heap _ _ _ _ _ (by omega))⟩⟩
    try simp only [Act.put, List.setIfInBounds_toArray, List.set_cons_zero, List.set_cons_succ]
    refine Reg.wpS7_skip rfl (fun wq hq => ?gs9x13) ?ks9x13
    case gs9x13 =>
      obtain ⟨hs, hG, db000, db001, db010, gb010, db011, gb011, db012, gb012, h_r0, h_r1⟩ := hq.out
      have hres := h_r1
      obtain ⟨_, ⟨x0, cc0⟩, ⟨x1, cc1⟩, ⟨x2, cc2⟩, hz⟩ := h_r1
      have ff0 := hz 0 (by omega)
      have ff1 := hz 1 (by omega)
      have ff2 := hz 2 (by omega)
      exact ⟨put3 wq (w.heap.size + 1) (xa) (xb) (xc), by unfold put3; go_simp, hid ⟨hs.put (put3_heap _ _ _ _ _) (put3_size _ _ _ _ _) (by omega) (by omega), grown_put3 hG (by omega) _ _ _, cellP (put3_heap _ _ _ _ _) db000 (by dsimp only <;> omega), cellP (put3_heap _ _ _ _ _) db001 (by dsimp only <;> omega), cellP (put3_heap _ _ _ _ _) db010 (by dsimp only <;> omega), frozenP (put3_heap _ _ _ _ _) gb010 (by dsimp only <;> omega), cellP (put3_heap _ _ _ _ _) db011 (by dsimp only <;> omega), frozenP (put3_heap _ _ _ _ _) gb011 (by dsimp only <;> omega), cellP (put3_heap _ _ _ _ _) db012 (by dsimp only <;> omega), frozenP (put3_heap _ _ _ _ _) gb012 (by dsimp only <;> omega), h_r0.heap (by rw [put3_size]; exact Nat.le_refl _) (put3_heap _ _ _ _ _ _ (by omega)), hres.put _ _ _⟩⟩
    try simp only [Act.put, List.setIfInBounds_toArray, List.set_cons_zero, List.set_cons_succ]
    intro w2 hq
    obtain ⟨hs, hG, db000, db001, db010, gb010, db011, gb011, db012, gb012, h_r0, h_r1⟩ := hq.out
    clear hq
    change wpList _ _ _ _ _ _
    obtain ⟨_, ⟨x00, cr00⟩, ⟨x01, cr01⟩, _⟩ := h_r0
    obtain ⟨_, ⟨x10, cr10⟩, ⟨x11, cr11⟩, ⟨x12, cr12⟩, _⟩ := h_r1
    go_wp2_with fail
    try simp only [Exit.inBlock, Exit.then]
    refine bodyPost_ret (by simp [results, Tryz.results62, go_sem, cr00, cr01, cr10, cr11, cr12]; try rfl) rfl ?_
    exact ⟨⟨_, _, _, _, _, _, rfl⟩, by have hBf := below_grown (Below.refl w.heap.size w) hG (by omega) (by omega); first | exact hBf | (rw [hbs]; exact hBf) | go_grown⟩
end Go.Proofs.YtbjcbbnfgfmllaaGreatDoor
