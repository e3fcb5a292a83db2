/- Contracts: big, DrawHasRightAngle. -/
import Derived.Test.YtommkkgkfjmhdaaDr4
import Derived.Test.YtommkkgkfjmhdaaAgg
set_option linter.unusedVariables false
set_option linter.unusedSimpArgs false
set_option maxHeartbeats 1000000
set_option maxRecDepth 100000
namespace Go.Proofs.Ytommkkgkfjmhdaa
open Go.RowKit
def IsI (v : Value) : Prop := ∃ n : Int, v = .int .i64 n
def IsP (v : Value) : Prop := ∃ x y : Int, v = .agg #[.int .i64 x, .int .i64 y]
def IsPt (p : Int) (v : Value) : Prop := ∃ x y : Int, v = .agg #[.int .i64 x, .int .i64 y] ∧ 0 ≤ x ∧ x < p ∧ 0 ≤ y ∧ y < p
def IsN (p : Int) (v : Value) : Prop := ∃ n : Int, v = .int .i64 n ∧ 0 ≤ n ∧ n < p
theorem keepAF {w : World} {a : Addr} {x : Value} (hz : w.cell? a = some x) (h : w.frozen? a = false) (o : Obj) : (w.alloc o).frozen? a = false := keepF ((Below.refl _ w).alloc (Nat.le_refl _) o) hz h
theorem keepAF3 {w : World} {a : Addr} {x : Value} (hz : w.cell? a = some x) (h : w.frozen? a = false) (o1 o2 o3 : Obj) : (((w.alloc o1).alloc o2).alloc o3).frozen? a = false := keepAF (keepA _ (keepA _ hz)) (keepAF (keepA _ hz) (keepAF hz h o1) o2) o3
theorem field_of {p : Int} (h : p ∈ ([3, 5, 5, 7, 7, 11, 13, 13, 17, 19, 23, 29, 31] : List Int)) : Pl.fieldB p = true := by
  simp only [List.mem_cons, List.not_mem_nil, or_false] at h
  rcases h with rfl | rfl | rfl | rfl | rfl | rfl | rfl | rfl | rfl | rfl | rfl | rfl | rfl <;> decide
theorem Bytes.alloc {w : World} {B : Nat} {v : Value} (h : Bytes w B v) (o : Obj) : Bytes (w.alloc o) B v := by
  obtain ⟨o', n, c, h1, h2, h0, h3⟩ := h
  refine ⟨o', n, c, h1, h2, h0, fun ad ha => ⟨(h3 ad ha).1, fun j hj => ?_⟩⟩
  obtain ⟨b, h4, h5⟩ := (h3 ad ha).2 j hj
  exact ⟨b, keepA _ h4, h5⟩
theorem drawHasRightAngle_any (v : Value) (w : World) (hv : Bytes w w.heap.size v) :
    Calls Try.prog 33 #[v] w fun e w' => (∃ p k ax ay bx by_ cx cy : Int, e = .returned (.tuple #[.int .i64 p, .int .i64 k, .agg #[.int .i64 ax, .int .i64 ay], .agg #[.int .i64 bx, .int .i64 by_], .agg #[.int .i64 cx, .int .i64 cy]])) ∧ Below w.heap.size w w' := by
  obtain ⟨B, hBw⟩ : ∃ B, B = w.heap.size := ⟨_, rfl⟩
  have hv0 : Bytes w B v := by rw [hBw]; exact hv
  go_enter Try.func33, Try.ntmps33
  go_wp2_with fail
  generalize hW : (World.alloc (World.alloc (World.alloc w (.cells #[.int .i64 0, .int .i64 0] 24)) (.cells #[.int .i64 0, .int .i64 0] 24)) (.cells #[.int .i64 0, .int .i64 0] 24)) = W
  have d40 : W.cell? ⟨w.heap.size, 0, none⟩ = some (.int .i64 0) := by subst hW; go_simp
  have g40 : W.frozen? ⟨w.heap.size, 0, none⟩ = false := by subst hW; go_simp
  have d41 : W.cell? ⟨w.heap.size, 1, none⟩ = some (.int .i64 0) := by subst hW; go_simp
  have g41 : W.frozen? ⟨w.heap.size, 1, none⟩ = false := by subst hW; go_simp
  have d50 : W.cell? ⟨w.heap.size + 1, 0, none⟩ = some (.int .i64 0) := by subst hW; go_simp
  have g50 : W.frozen? ⟨w.heap.size + 1, 0, none⟩ = false := by subst hW; go_simp
  have d51 : W.cell? ⟨w.heap.size + 1, 1, none⟩ = some (.int .i64 0) := by subst hW; go_simp
  have g51 : W.frozen? ⟨w.heap.size + 1, 1, none⟩ = false := by subst hW; go_simp
  have d60 : W.cell? ⟨w.heap.size + 1 + 1, 0, none⟩ = some (.int .i64 0) := by subst hW; go_simp
  have g60 : W.frozen? ⟨w.heap.size + 1 + 1, 0, none⟩ = false := by subst hW; go_simp
  have d61 : W.cell? ⟨w.heap.size + 1 + 1, 1, none⟩ = some (.int .i64 0) := by subst hW; go_simp
  have g61 : W.frozen? ⟨w.heap.size + 1 + 1, 1, none⟩ = false := by subst hW; go_simp
  have hv1 : Bytes W B v := by subst hW; exact ((hv0.alloc _).alloc _).alloc _
  have hB : Below w.heap.size w W := by subst hW; go_grown
  have hbs : w.heap.size + 3 ≤ W.heap.size := by subst hW; simp
  clear hW hv hv0
  refine (from_any v B W hv1 (by omega)).mono ?_
  rintro e w1 ⟨rfl, hs, hbn⟩
  replace g40 := keepF hbn d40 g40
  replace g41 := keepF hbn d41 g41
  replace g50 := keepF hbn d50 g50
  replace g51 := keepF hbn d51 g51
  replace g60 := keepF hbn d60 g60
  replace g61 := keepF hbn d61 g61
  replace d40 := keepC hbn d40
  replace d41 := keepC hbn d41
  replace d50 := keepC hbn d50
  replace d51 := keepC hbn d51
  replace d60 := keepC hbn d60
  replace d61 := keepC hbn d61
  have hG : w.grownBy w1 (some W.heap.size) := grown_below (below_of hB hbn hB.size)
  clear hB hbn hv1
  generalize W.heap.size = bs at *
  clear W
  have hlow := hs.low
  go_wp2_with fail
  refine (drawField_any B bs v _ hs).mono ?_
  rintro e w' ⟨⟨p, rfl, hpm⟩, hs', hG'⟩
  replace g40 := frozenG hG' d40 (by dsimp only <;> omega) g40
  replace g41 := frozenG hG' d41 (by dsimp only <;> omega) g41
  replace g50 := frozenG hG' d50 (by dsimp only <;> omega) g50
  replace g51 := frozenG hG' d51 (by dsimp only <;> omega) g51
  replace g60 := frozenG hG' d60 (by dsimp only <;> omega) g60
  replace g61 := frozenG hG' d61 (by dsimp only <;> omega) g61
  replace d40 := cellG hG' d40 (by dsimp only <;> omega)
  replace d41 := cellG hG' d41 (by dsimp only <;> omega)
  replace d50 := cellG hG' d50 (by dsimp only <;> omega)
  replace d51 := cellG hG' d51 (by dsimp only <;> omega)
  replace d60 := cellG hG' d60 (by dsimp only <;> omega)
  replace d61 := cellG hG' d61 (by dsimp only <;> omega)
  replace hs := hs'
  replace hG := grownBy_trans hG hG'
  clear hs' hG'
  have hf := field_of hpm
  have hp := Pl.field_bd hf
  obtain ⟨hp1, hp2⟩ := hp
  clear hpm
  go_wp2_with fail
  refine (drawPoint_any p (by omega) B bs v _ hs).mono ?_
  rintro e w' ⟨⟨ax, ay, rfl, ax1, ax2, ay1, ay2⟩, hs', hG'⟩
  replace g40 := frozenG hG' d40 (by dsimp only <;> omega) g40
  replace g41 := frozenG hG' d41 (by dsimp only <;> omega) g41
  replace g50 := frozenG hG' d50 (by dsimp only <;> omega) g50
  replace g51 := frozenG hG' d51 (by dsimp only <;> omega) g51
  replace g60 := frozenG hG' d60 (by dsimp only <;> omega) g60
  replace g61 := frozenG hG' d61 (by dsimp only <;> omega) g61
  replace d40 := cellG hG' d40 (by dsimp only <;> omega)
  replace d41 := cellG hG' d41 (by dsimp only <;> omega)
  replace d50 := cellG hG' d50 (by dsimp only <;> omega)
  replace d51 := cellG hG' d51 (by dsimp only <;> omega)
  replace d60 := cellG hG' d60 (by dsimp only <;> omega)
  replace d61 := cellG hG' d61 (by dsimp only <;> omega)
  replace hs := hs'
  replace hG := grownBy_trans hG hG'
  clear hs' hG'
  go_wp2_with fail
  refine (drawPoint_any p (by omega) B bs v _ hs).mono ?_
  rintro e w' ⟨⟨bx, by_, rfl, bx1, bx2, by1, by2⟩, hs', hG'⟩
  replace g40 := frozenG hG' d40 (by dsimp only <;> omega) g40
  replace g41 := frozenG hG' d41 (by dsimp only <;> omega) g41
  replace g50 := frozenG hG' d50 (by dsimp only <;> omega) g50
  replace g51 := frozenG hG' d51 (by dsimp only <;> omega) g51
  replace g60 := frozenG hG' d60 (by dsimp only <;> omega) g60
  replace g61 := frozenG hG' d61 (by dsimp only <;> omega) g61
  replace d40 := cellG hG' d40 (by dsimp only <;> omega)
  replace d41 := cellG hG' d41 (by dsimp only <;> omega)
  replace d50 := cellG hG' d50 (by dsimp only <;> omega)
  replace d51 := cellG hG' d51 (by dsimp only <;> omega)
  replace d60 := cellG hG' d60 (by dsimp only <;> omega)
  replace d61 := cellG hG' d61 (by dsimp only <;> omega)
  replace hs := hs'
  replace hG := grownBy_trans hG hG'
  clear hs' hG'
  go_wp2_with fail
  refine (drawPoint_any p (by omega) B bs v _ hs).mono ?_
  rintro e w' ⟨⟨cx, cy, rfl, cx1, cx2, cy1, cy2⟩, hs', hG'⟩
  replace g40 := frozenG hG' d40 (by dsimp only <;> omega) g40
  replace g41 := frozenG hG' d41 (by dsimp only <;> omega) g41
  replace g50 := frozenG hG' d50 (by dsimp only <;> omega) g50
  replace g51 := frozenG hG' d51 (by dsimp only <;> omega) g51
  replace g60 := frozenG hG' d60 (by dsimp only <;> omega) g60
  replace g61 := frozenG hG' d61 (by dsimp only <;> omega) g61
  replace d40 := cellG hG' d40 (by dsimp only <;> omega)
  replace d41 := cellG hG' d41 (by dsimp only <;> omega)
  replace d50 := cellG hG' d50 (by dsimp only <;> omega)
  replace d51 := cellG hG' d51 (by dsimp only <;> omega)
  replace d60 := cellG hG' d60 (by dsimp only <;> omega)
  replace d61 := cellG hG' d61 (by dsimp only <;> omega)
  replace hs := hs'
  replace hG := grownBy_trans hG hG'
  clear hs' hG'
  go_wp2_with fail
  refine (drawColour_any B bs v _ hs).mono ?_
  rintro e w' ⟨⟨k, rfl⟩, hs', hG'⟩
  replace g40 := frozenG hG' d40 (by dsimp only <;> omega) g40
  replace g41 := frozenG hG' d41 (by dsimp only <;> omega) g41
  replace g50 := frozenG hG' d50 (by dsimp only <;> omega) g50
  replace g51 := frozenG hG' d51 (by dsimp only <;> omega) g51
  replace g60 := frozenG hG' d60 (by dsimp only <;> omega) g60
  replace g61 := frozenG hG' d61 (by dsimp only <;> omega) g61
  replace d40 := cellG hG' d40 (by dsimp only <;> omega)
  replace d41 := cellG hG' d41 (by dsimp only <;> omega)
  replace d50 := cellG hG' d50 (by dsimp only <;> omega)
  replace d51 := cellG hG' d51 (by dsimp only <;> omega)
  replace d60 := cellG hG' d60 (by dsimp only <;> omega)
  replace d61 := cellG hG' d61 (by dsimp only <;> omega)
  replace hs := hs'
  replace hG := grownBy_trans hG hG'
  clear hs' hG'
  by_cases heq : ax = bx ∧ ay = by_
  · have hq : ∀ w', (Op.equalIn 10000 24 (.agg #[.int .i64 ax, .int .i64 ay]) (.agg #[.int .i64 bx, .int .i64 by_])).run Try.prog w' = .ok (true) w' := fun w' => by rw [eqPt_small w' (by omega) (by omega) (by omega) (by omega) (by omega) (by omega) (by omega) (by omega), show (ax == bx && ay == by_) = true by simp [heq.1, heq.2]]
    have hcs := hid heq
    clear heq
    go_wp2_with fail
    generalize hW : (World.alloc (World.alloc (World.alloc w' (.cells #[.int .i64 ax, .int .i64 ay] 24)) (.cells #[.int .i64 bx, .int .i64 by_] 24)) (.cells #[.int .i64 cx, .int .i64 cy] 24)) = W3
    have da0 : W3.cell? ⟨w'.heap.size, 0, none⟩ = some (.int .i64 ax) := by subst hW; go_simp
    have da1 : W3.cell? ⟨w'.heap.size, 1, none⟩ = some (.int .i64 ay) := by subst hW; go_simp
    have db0 : W3.cell? ⟨w'.heap.size + 1, 0, none⟩ = some (.int .i64 bx) := by subst hW; go_simp
    have db1 : W3.cell? ⟨w'.heap.size + 1, 1, none⟩ = some (.int .i64 by_) := by subst hW; go_simp
    have dc0 : W3.cell? ⟨w'.heap.size + 1 + 1, 0, none⟩ = some (.int .i64 cx) := by subst hW; go_simp
    have gc0 : W3.frozen? ⟨w'.heap.size + 1 + 1, 0, none⟩ = false := by subst hW; go_simp
    have dc1 : W3.cell? ⟨w'.heap.size + 1 + 1, 1, none⟩ = some (.int .i64 cy) := by subst hW; go_simp
    have gc1 : W3.frozen? ⟨w'.heap.size + 1 + 1, 1, none⟩ = false := by subst hW; go_simp
    have hbn : Below w'.heap.size w' W3 := by subst hW; go_grown
    replace g40 := keepF hbn d40 g40
    replace g41 := keepF hbn d41 g41
    replace g50 := keepF hbn d50 g50
    replace g51 := keepF hbn d51 g51
    replace g60 := keepF hbn d60 g60
    replace g61 := keepF hbn d61 g61
    replace d40 := keepC hbn d40
    replace d41 := keepC hbn d41
    replace d50 := keepC hbn d50
    replace d51 := keepC hbn d51
    replace d60 := keepC hbn d60
    replace d61 := keepC hbn d61
    have hlt := hs.lt
    replace hs := hs.keep hbn
    replace hG := grownBy_trans hG (grown_below hbn)
    clear hW hbn
    generalize w'.heap.size = r at *
    clear w'
    refine Reg.wp_region_steps (by kernel_rfl) 17 (by kernel_rfl) (fun wq => Hid (Src wq B bs v ∧ w.grownBy wq (some bs) ∧ wq.cell? ⟨w.heap.size, 0, none⟩ = some (.int .i64 0) ∧ wq.frozen? ⟨w.heap.size, 0, none⟩ = false ∧ wq.cell? ⟨w.heap.size, 1, none⟩ = some (.int .i64 0) ∧ wq.frozen? ⟨w.heap.size, 1, none⟩ = false ∧ wq.cell? ⟨w.heap.size + 1, 0, none⟩ = some (.int .i64 0) ∧ wq.frozen? ⟨w.heap.size + 1, 0, none⟩ = false ∧ wq.cell? ⟨w.heap.size + 1, 1, none⟩ = some (.int .i64 0) ∧ wq.frozen? ⟨w.heap.size + 1, 1, none⟩ = false ∧ wq.cell? ⟨w.heap.size + 1 + 1, 0, none⟩ = some (.int .i64 0) ∧ wq.frozen? ⟨w.heap.size + 1 + 1, 0, none⟩ = false ∧ wq.cell? ⟨w.heap.size + 1 + 1, 1, none⟩ = some (.int .i64 0) ∧ wq.frozen? ⟨w.heap.size + 1 + 1, 1, none⟩ = false ∧ wq.cell? ⟨r, 0, none⟩ = some (.int .i64 ax) ∧ wq.cell? ⟨r, 1, none⟩ = some (.int .i64 ay) ∧ wq.cell? ⟨r + 1, 0, none⟩ = some (.int .i64 bx) ∧ wq.cell? ⟨r + 1, 1, none⟩ = some (.int .i64 by_) ∧ wq.cell? ⟨r + 1 + 1, 0, none⟩ = some (.int .i64 cx) ∧ wq.frozen? ⟨r + 1 + 1, 0, none⟩ = false ∧ wq.cell? ⟨r + 1 + 1, 1, none⟩ = some (.int .i64 cy) ∧ wq.frozen? ⟨r + 1 + 1, 1, none⟩ = false)) [(fun v => v = .pointer (some ⟨bs, 0, none⟩)), (fun v => v = .int .i64 p), IsI, (fun v => v = .int .i64 k), (fun v => v = .pointer (some ⟨bs, 0, none⟩)), (fun v => v = .int .i64 p), (fun v => v = .agg #[.int .i64 ax, .int .i64 ay]), IsP, (fun v => v = .pointer (some ⟨bs, 0, none⟩)), (fun v => v = .int .i64 p), (fun v => v = .agg #[.int .i64 bx, .int .i64 by_]), IsP, (fun v => v = .pointer (some ⟨bs, 0, none⟩)), (fun v => v = .int .i64 p), (fun v => v = .agg #[.int .i64 cx, .int .i64 cy]), IsP, IsI] (Reg.inh_cons ⟨_, rfl⟩ (Reg.inh_cons ⟨_, rfl⟩ (Reg.inh_cons ⟨.int .i64 0, _, rfl⟩ (Reg.inh_cons ⟨_, rfl⟩ (Reg.inh_cons ⟨_, rfl⟩ (Reg.inh_cons ⟨_, rfl⟩ (Reg.inh_cons ⟨_, rfl⟩ (Reg.inh_cons ⟨.agg #[.int .i64 0, .int .i64 0], _, _, rfl⟩ (Reg.inh_cons ⟨_, rfl⟩ (Reg.inh_cons ⟨_, rfl⟩ (Reg.inh_cons ⟨_, rfl⟩ (Reg.inh_cons ⟨.agg #[.int .i64 0, .int .i64 0], _, _, rfl⟩ (Reg.inh_cons ⟨_, rfl⟩ (Reg.inh_cons ⟨_, rfl⟩ (Reg.inh_cons ⟨_, rfl⟩ (Reg.inh_cons ⟨.agg #[.int .i64 0, .int .i64 0], _, _, rfl⟩ (Reg.inh_cons ⟨.int .i64 0, _, rfl⟩ (Reg.inh_nil)))))))))))))))))) ?_ ?_
    · exact hid ⟨hs.drew, grownBy_drew hG, keepC (Below.refl _ _).drew d40, keepF (Below.refl _ _).drew d40 g40, keepC (Below.refl _ _).drew d41, keepF (Below.refl _ _).drew d41 g41, keepC (Below.refl _ _).drew d50, keepF (Below.refl _ _).drew d50 g50, keepC (Below.refl _ _).drew d51, keepF (Below.refl _ _).drew d51 g51, keepC (Below.refl _ _).drew d60, keepF (Below.refl _ _).drew d60 g60, keepC (Below.refl _ _).drew d61, keepF (Below.refl _ _).drew d61 g61, keepC (Below.refl _ _).drew da0, keepC (Below.refl _ _).drew da1, keepC (Below.refl _ _).drew db0, keepC (Below.refl _ _).drew db1, keepC (Below.refl _ _).drew dc0, keepF (Below.refl _ _).drew dc0 gc0, keepC (Below.refl _ _).drew dc1, keepF (Below.refl _ _).drew dc1 gc1⟩
    clear hs hG d40 g40 d41 g41 d50 g50 d51 g51 d60 g60 d61 g61 da0 da1 db0 db1 dc0 gc0 dc1 gc1
    simp only [List.take_succ_cons, List.take_zero, List.drop_succ_cons, List.drop_zero]
    refine Reg.wpSq_val (fun wq hq => ?gs1x0) ?ks1x0
    case gs1x0 => (obtain ⟨hs, hG, d40, g40, d41, g41, d50, g50, d51, g51, d60, g60, d61, g61, da0, da1, db0, db1, dc0, gc0, dc1, gc1⟩ := hq.out; go_simp; first | done | (with_reducible rfl) | rfl)
    try simp only [Act.put, List.setIfInBounds_toArray, List.set_cons_zero, List.set_cons_succ]
    refine Reg.wpSq_val (fun wq hq => ?gs1x1) ?ks1x1
    case gs1x1 => (obtain ⟨hs, hG, d40, g40, d41, g41, d50, g50, d51, g51, d60, g60, d61, g61, da0, da1, db0, db1, dc0, gc0, dc1, gc1⟩ := hq.out; go_simp; first | done | (with_reducible rfl) | rfl)
    try simp only [Act.put, List.setIfInBounds_toArray, List.set_cons_zero, List.set_cons_succ]
    refine Reg.wpSq_step (fun wq hq => ?gs1x2) ?ks1x2
    case gs1x2 =>
      obtain ⟨hs, hG, d40, g40, d41, g41, d50, g50, d51, g51, d60, g60, d61, g61, da0, da1, db0, db1, dc0, gc0, dc1, gc1⟩ := hq.out
      refine Reg.sAt_call (f := 85) (args := #[.pointer (some ⟨bs, 0, none⟩), .int .i64 p]) (by go_simp) ?_
      refine (badField_any _ B bs v _ hs).mono ?_
      rintro e w' ⟨⟨q, rfl⟩, hs', hG'⟩
      replace g40 := frozenG hG' d40 (by dsimp only <;> omega) g40
      replace g41 := frozenG hG' d41 (by dsimp only <;> omega) g41
      replace g50 := frozenG hG' d50 (by dsimp only <;> omega) g50
      replace g51 := frozenG hG' d51 (by dsimp only <;> omega) g51
      replace g60 := frozenG hG' d60 (by dsimp only <;> omega) g60
      replace g61 := frozenG hG' d61 (by dsimp only <;> omega) g61
      replace gc0 := frozenG hG' dc0 (by dsimp only <;> omega) gc0
      replace gc1 := frozenG hG' dc1 (by dsimp only <;> omega) gc1
      replace d40 := cellG hG' d40 (by dsimp only <;> omega)
      replace d41 := cellG hG' d41 (by dsimp only <;> omega)
      replace d50 := cellG hG' d50 (by dsimp only <;> omega)
      replace d51 := cellG hG' d51 (by dsimp only <;> omega)
      replace d60 := cellG hG' d60 (by dsimp only <;> omega)
      replace d61 := cellG hG' d61 (by dsimp only <;> omega)
      replace da0 := cellG hG' da0 (by dsimp only <;> omega)
      replace da1 := cellG hG' da1 (by dsimp only <;> omega)
      replace db0 := cellG hG' db0 (by dsimp only <;> omega)
      replace db1 := cellG hG' db1 (by dsimp only <;> omega)
      replace dc0 := cellG hG' dc0 (by dsimp only <;> omega)
      replace dc1 := cellG hG' dc1 (by dsimp only <;> omega)
      replace hs := hs'
      replace hG := grownBy_trans hG hG'
      clear hs' hG'
      exact ⟨_, rfl, ⟨_, rfl⟩, hid ⟨hs, hG, d40, g40, d41, g41, d50, g50, d51, g51, d60, g60, d61, g61, da0, da1, db0, db1, dc0, gc0, dc1, gc1⟩⟩
    rintro _ ⟨q, rfl⟩
    try simp only [Act.put, List.setIfInBounds_toArray, List.set_cons_zero, List.set_cons_succ]
    refine Reg.wpSq_val (fun wq hq => ?gs1x3) ?ks1x3
    case gs1x3 => (obtain ⟨hs, hG, d40, g40, d41, g41, d50, g50, d51, g51, d60, g60, d61, g61, da0, da1, db0, db1, dc0, gc0, dc1, gc1⟩ := hq.out; go_simp; first | done | (with_reducible rfl) | rfl)
    try simp only [Act.put, List.setIfInBounds_toArray, List.set_cons_zero, List.set_cons_succ]
    refine Reg.wpSq_val (fun wq hq => ?gs1x4) ?ks1x4
    case gs1x4 => (obtain ⟨hs, hG, d40, g40, d41, g41, d50, g50, d51, g51, d60, g60, d61, g61, da0, da1, db0, db1, dc0, gc0, dc1, gc1⟩ := hq.out; go_simp; first | done | (with_reducible rfl) | rfl)
    try simp only [Act.put, List.setIfInBounds_toArray, List.set_cons_zero, List.set_cons_succ]
    refine Reg.wpSq_val (fun wq hq => ?gs1x5) ?ks1x5
    case gs1x5 => (obtain ⟨hs, hG, d40, g40, d41, g41, d50, g50, d51, g51, d60, g60, d61, g61, da0, da1, db0, db1, dc0, gc0, dc1, gc1⟩ := hq.out; go_simp; first | done | (with_reducible rfl) | rfl)
    try simp only [Act.put, List.setIfInBounds_toArray, List.set_cons_zero, List.set_cons_succ]
    refine Reg.wpSq_val (fun wq hq => ?gs1x6) ?ks1x6
    case gs1x6 => (obtain ⟨hs, hG, d40, g40, d41, g41, d50, g50, d51, g51, d60, g60, d61, g61, da0, da1, db0, db1, dc0, gc0, dc1, gc1⟩ := hq.out; go_simp; first | done | (with_reducible rfl) | rfl)
    try simp only [Act.put, List.setIfInBounds_toArray, List.set_cons_zero, List.set_cons_succ]
    refine Reg.wpSq_step (fun wq hq => ?gs1x7) ?ks1x7
    case gs1x7 =>
      obtain ⟨hs, hG, d40, g40, d41, g41, d50, g50, d51, g51, d60, g60, d61, g61, da0, da1, db0, db1, dc0, gc0, dc1, gc1⟩ := hq.out
      refine Reg.sAt_call (f := 86) (args := #[.pointer (some ⟨bs, 0, none⟩), .int .i64 p, .agg #[.int .i64 ax, .int .i64 ay]]) (by go_simp) ?_
      refine (badPoint_any _ _ _ B bs v _ hs).mono ?_
      rintro e w' ⟨⟨qx, qy, rfl⟩, hs', hG'⟩
      replace g40 := frozenG hG' d40 (by dsimp only <;> omega) g40
      replace g41 := frozenG hG' d41 (by dsimp only <;> omega) g41
      replace g50 := frozenG hG' d50 (by dsimp only <;> omega) g50
      replace g51 := frozenG hG' d51 (by dsimp only <;> omega) g51
      replace g60 := frozenG hG' d60 (by dsimp only <;> omega) g60
      replace g61 := frozenG hG' d61 (by dsimp only <;> omega) g61
      replace gc0 := frozenG hG' dc0 (by dsimp only <;> omega) gc0
      replace gc1 := frozenG hG' dc1 (by dsimp only <;> omega) gc1
      replace d40 := cellG hG' d40 (by dsimp only <;> omega)
      replace d41 := cellG hG' d41 (by dsimp only <;> omega)
      replace d50 := cellG hG' d50 (by dsimp only <;> omega)
      replace d51 := cellG hG' d51 (by dsimp only <;> omega)
      replace d60 := cellG hG' d60 (by dsimp only <;> omega)
      replace d61 := cellG hG' d61 (by dsimp only <;> omega)
      replace da0 := cellG hG' da0 (by dsimp only <;> omega)
      replace da1 := cellG hG' da1 (by dsimp only <;> omega)
      replace db0 := cellG hG' db0 (by dsimp only <;> omega)
      replace db1 := cellG hG' db1 (by dsimp only <;> omega)
      replace dc0 := cellG hG' dc0 (by dsimp only <;> omega)
      replace dc1 := cellG hG' dc1 (by dsimp only <;> omega)
      replace hs := hs'
      replace hG := grownBy_trans hG hG'
      clear hs' hG'
      exact ⟨_, rfl, ⟨_, _, rfl⟩, hid ⟨hs, hG, d40, g40, d41, g41, d50, g50, d51, g51, d60, g60, d61, g61, da0, da1, db0, db1, dc0, gc0, dc1, gc1⟩⟩
    rintro _ ⟨ux, uy, rfl⟩
    try simp only [Act.put, List.setIfInBounds_toArray, List.set_cons_zero, List.set_cons_succ]
    refine Reg.wpSq_val (fun wq hq => ?gs1x8) ?ks1x8
    case gs1x8 => (obtain ⟨hs, hG, d40, g40, d41, g41, d50, g50, d51, g51, d60, g60, d61, g61, da0, da1, db0, db1, dc0, gc0, dc1, gc1⟩ := hq.out; go_simp; first | done | (with_reducible rfl) | rfl)
    try simp only [Act.put, List.setIfInBounds_toArray, List.set_cons_zero, List.set_cons_succ]
    refine Reg.wpSq_val (fun wq hq => ?gs1x9) ?ks1x9
    case gs1x9 => (obtain ⟨hs, hG, d40, g40, d41, g41, d50, g50, d51, g51, d60, g60, d61, g61, da0, da1, db0, db1, dc0, gc0, dc1, gc1⟩ := hq.out; go_simp; first | done | (with_reducible rfl) | rfl)
    try simp only [Act.put, List.setIfInBounds_toArray, List.set_cons_zero, List.set_cons_succ]
    refine Reg.wpSq_val (fun wq hq => ?gs1x10) ?ks1x10
    case gs1x10 => (obtain ⟨hs, hG, d40, g40, d41, g41, d50, g50, d51, g51, d60, g60, d61, g61, da0, da1, db0, db1, dc0, gc0, dc1, gc1⟩ := hq.out; go_simp; first | done | (with_reducible rfl) | rfl)
    try simp only [Act.put, List.setIfInBounds_toArray, List.set_cons_zero, List.set_cons_succ]
    refine Reg.wpSq_step (fun wq hq => ?gs1x11) ?ks1x11
    case gs1x11 =>
      obtain ⟨hs, hG, d40, g40, d41, g41, d50, g50, d51, g51, d60, g60, d61, g61, da0, da1, db0, db1, dc0, gc0, dc1, gc1⟩ := hq.out
      refine Reg.sAt_call (f := 86) (args := #[.pointer (some ⟨bs, 0, none⟩), .int .i64 p, .agg #[.int .i64 bx, .int .i64 by_]]) (by go_simp) ?_
      refine (badPoint_any _ _ _ B bs v _ hs).mono ?_
      rintro e w' ⟨⟨qx, qy, rfl⟩, hs', hG'⟩
      replace g40 := frozenG hG' d40 (by dsimp only <;> omega) g40
      replace g41 := frozenG hG' d41 (by dsimp only <;> omega) g41
      replace g50 := frozenG hG' d50 (by dsimp only <;> omega) g50
      replace g51 := frozenG hG' d51 (by dsimp only <;> omega) g51
      replace g60 := frozenG hG' d60 (by dsimp only <;> omega) g60
      replace g61 := frozenG hG' d61 (by dsimp only <;> omega) g61
      replace gc0 := frozenG hG' dc0 (by dsimp only <;> omega) gc0
      replace gc1 := frozenG hG' dc1 (by dsimp only <;> omega) gc1
      replace d40 := cellG hG' d40 (by dsimp only <;> omega)
      replace d41 := cellG hG' d41 (by dsimp only <;> omega)
      replace d50 := cellG hG' d50 (by dsimp only <;> omega)
      replace d51 := cellG hG' d51 (by dsimp only <;> omega)
      replace d60 := cellG hG' d60 (by dsimp only <;> omega)
      replace d61 := cellG hG' d61 (by dsimp only <;> omega)
      replace da0 := cellG hG' da0 (by dsimp only <;> omega)
      replace da1 := cellG hG' da1 (by dsimp only <;> omega)
      replace db0 := cellG hG' db0 (by dsimp only <;> omega)
      replace db1 := cellG hG' db1 (by dsimp only <;> omega)
      replace dc0 := cellG hG' dc0 (by dsimp only <;> omega)
      replace dc1 := cellG hG' dc1 (by dsimp only <;> omega)
      replace hs := hs'
      replace hG := grownBy_trans hG hG'
      clear hs' hG'
      exact ⟨_, rfl, ⟨_, _, rfl⟩, hid ⟨hs, hG, d40, g40, d41, g41, d50, g50, d51, g51, d60, g60, d61, g61, da0, da1, db0, db1, dc0, gc0, dc1, gc1⟩⟩
    rintro _ ⟨vx, vy, rfl⟩
    try simp only [Act.put, List.setIfInBounds_toArray, List.set_cons_zero, List.set_cons_succ]
    refine Reg.wpSq_val (fun wq hq => ?gs1x12) ?ks1x12
    case gs1x12 => (obtain ⟨hs, hG, d40, g40, d41, g41, d50, g50, d51, g51, d60, g60, d61, g61, da0, da1, db0, db1, dc0, gc0, dc1, gc1⟩ := hq.out; go_simp; first | done | (with_reducible rfl) | rfl)
    try simp only [Act.put, List.setIfInBounds_toArray, List.set_cons_zero, List.set_cons_succ]
    refine Reg.wpSq_val (fun wq hq => ?gs1x13) ?ks1x13
    case gs1x13 => (obtain ⟨hs, hG, d40, g40, d41, g41, d50, g50, d51, g51, d60, g60, d61, g61, da0, da1, db0, db1, dc0, gc0, dc1, gc1⟩ := hq.out; go_simp; first | done | (with_reducible rfl) | rfl)
    try simp only [Act.put, List.setIfInBounds_toArray, List.set_cons_zero, List.set_cons_succ]
    refine Reg.wpSq_val (fun wq hq => ?gs1x14) ?ks1x14
    case gs1x14 => (obtain ⟨hs, hG, d40, g40, d41, g41, d50, g50, d51, g51, d60, g60, d61, g61, da0, da1, db0, db1, dc0, gc0, dc1, gc1⟩ := hq.out; go_simp; first | done | (with_reducible rfl) | rfl)
    try simp only [Act.put, List.setIfInBounds_toArray, List.set_cons_zero, List.set_cons_succ]
    refine Reg.wpSq_step (fun wq hq => ?gs1x15) ?ks1x15
    case gs1x15 =>
      obtain ⟨hs, hG, d40, g40, d41, g41, d50, g50, d51, g51, d60, g60, d61, g61, da0, da1, db0, db1, dc0, gc0, dc1, gc1⟩ := hq.out
      refine Reg.sAt_call (f := 86) (args := #[.pointer (some ⟨bs, 0, none⟩), .int .i64 p, .agg #[.int .i64 cx, .int .i64 cy]]) (by go_simp) ?_
      refine (badPoint_any _ _ _ B bs v _ hs).mono ?_
      rintro e w' ⟨⟨qx, qy, rfl⟩, hs', hG'⟩
      replace g40 := frozenG hG' d40 (by dsimp only <;> omega) g40
      replace g41 := frozenG hG' d41 (by dsimp only <;> omega) g41
      replace g50 := frozenG hG' d50 (by dsimp only <;> omega) g50
      replace g51 := frozenG hG' d51 (by dsimp only <;> omega) g51
      replace g60 := frozenG hG' d60 (by dsimp only <;> omega) g60
      replace g61 := frozenG hG' d61 (by dsimp only <;> omega) g61
      replace gc0 := frozenG hG' dc0 (by dsimp only <;> omega) gc0
      replace gc1 := frozenG hG' dc1 (by dsimp only <;> omega) gc1
      replace d40 := cellG hG' d40 (by dsimp only <;> omega)
      replace d41 := cellG hG' d41 (by dsimp only <;> omega)
      replace d50 := cellG hG' d50 (by dsimp only <;> omega)
      replace d51 := cellG hG' d51 (by dsimp only <;> omega)
      replace d60 := cellG hG' d60 (by dsimp only <;> omega)
      replace d61 := cellG hG' d61 (by dsimp only <;> omega)
      replace da0 := cellG hG' da0 (by dsimp only <;> omega)
      replace da1 := cellG hG' da1 (by dsimp only <;> omega)
      replace db0 := cellG hG' db0 (by dsimp only <;> omega)
      replace db1 := cellG hG' db1 (by dsimp only <;> omega)
      replace dc0 := cellG hG' dc0 (by dsimp only <;> omega)
      replace dc1 := cellG hG' dc1 (by dsimp only <;> omega)
      replace hs := hs'
      replace hG := grownBy_trans hG hG'
      clear hs' hG'
      exact ⟨_, rfl, ⟨_, _, rfl⟩, hid ⟨hs, hG, d40, g40, d41, g41, d50, g50, d51, g51, d60, g60, d61, g61, da0, da1, db0, db1, dc0, gc0, dc1, gc1⟩⟩
    rintro _ ⟨xx, xy, rfl⟩
    try simp only [Act.put, List.setIfInBounds_toArray, List.set_cons_zero, List.set_cons_succ]
    refine Reg.wpSq_step (fun wq hq => ?gs1x16) ?ks1x16
    case gs1x16 => exact Reg.sAt_val (v := .int .i64 q) (by go_simp; first | done | rfl) ⟨_, rfl⟩ hq
    rintro _ ⟨q2, rfl⟩
    try simp only [Act.put, List.setIfInBounds_toArray, List.set_cons_zero, List.set_cons_succ]
    intro w2 hq
    obtain ⟨hs, hG, d40, g40, d41, g41, d50, g50, d51, g51, d60, g60, d61, g61, da0, da1, db0, db1, dc0, gc0, dc1, gc1⟩ := hq.out
    clear hq
    change wpList _ _ _ _ _ _
    go_wp2_with fail
    try simp only [Exit.inBlock, Exit.then]
    refine bodyPost_ret (by simp [results, Try.results33, go_sem, d40, g40, d41, g41, d50, g50, d51, g51, d60, g60, d61, g61]; try rfl) rfl ?_
    exact ⟨⟨_, _, _, _, _, _, _, _, rfl⟩, by have hBf := below_grown (Below.refl w.heap.size w) hG (Nat.le_refl _) (by omega); go_grown⟩
  · have hq : ∀ w', (Op.equalIn 10000 24 (.agg #[.int .i64 ax, .int .i64 ay]) (.agg #[.int .i64 bx, .int .i64 by_])).run Try.prog w' = .ok (false) w' := fun w' => by rw [eqPt_small w' (by omega) (by omega) (by omega) (by omega) (by omega) (by omega) (by omega) (by omega), show (ax == bx && ay == by_) = false by simpa using heq]
    have hcs := hid heq
    clear heq
    cases hk : Pl.colB k with
    | false =>
      go_wp2_with (go_at_call 40; refine (l02Colour_any _ _).mono ?_; rintro e w' ⟨rfl, rfl⟩)
      generalize hW : (World.alloc (World.alloc (World.alloc w' (.cells #[.int .i64 ax, .int .i64 ay] 24)) (.cells #[.int .i64 bx, .int .i64 by_] 24)) (.cells #[.int .i64 cx, .int .i64 cy] 24)) = W3
      have da0 : W3.cell? ⟨w'.heap.size, 0, none⟩ = some (.int .i64 ax) := by subst hW; go_simp
      have da1 : W3.cell? ⟨w'.heap.size, 1, none⟩ = some (.int .i64 ay) := by subst hW; go_simp
      have db0 : W3.cell? ⟨w'.heap.size + 1, 0, none⟩ = some (.int .i64 bx) := by subst hW; go_simp
      have db1 : W3.cell? ⟨w'.heap.size + 1, 1, none⟩ = some (.int .i64 by_) := by subst hW; go_simp
      have dc0 : W3.cell? ⟨w'.heap.size + 1 + 1, 0, none⟩ = some (.int .i64 cx) := by subst hW; go_simp
      have gc0 : W3.frozen? ⟨w'.heap.size + 1 + 1, 0, none⟩ = false := by subst hW; go_simp
      have dc1 : W3.cell? ⟨w'.heap.size + 1 + 1, 1, none⟩ = some (.int .i64 cy) := by subst hW; go_simp
      have gc1 : W3.frozen? ⟨w'.heap.size + 1 + 1, 1, none⟩ = false := by subst hW; go_simp
      have hbn : Below w'.heap.size w' W3 := by subst hW; go_grown
      replace g40 := keepF hbn d40 g40
      replace g41 := keepF hbn d41 g41
      replace g50 := keepF hbn d50 g50
      replace g51 := keepF hbn d51 g51
      replace g60 := keepF hbn d60 g60
      replace g61 := keepF hbn d61 g61
      replace d40 := keepC hbn d40
      replace d41 := keepC hbn d41
      replace d50 := keepC hbn d50
      replace d51 := keepC hbn d51
      replace d60 := keepC hbn d60
      replace d61 := keepC hbn d61
      have hlt := hs.lt
      replace hs := hs.keep hbn
      replace hG := grownBy_trans hG (grown_below hbn)
      clear hW hbn
      generalize w'.heap.size = r at *
      clear w'
      refine Reg.wp_region_steps (by kernel_rfl) 17 (by kernel_rfl) (fun wq => Hid (Src wq B bs v ∧ w.grownBy wq (some bs) ∧ wq.cell? ⟨w.heap.size, 0, none⟩ = some (.int .i64 0) ∧ wq.frozen? ⟨w.heap.size, 0, none⟩ = false ∧ wq.cell? ⟨w.heap.size, 1, none⟩ = some (.int .i64 0) ∧ wq.frozen? ⟨w.heap.size, 1, none⟩ = false ∧ wq.cell? ⟨w.heap.size + 1, 0, none⟩ = some (.int .i64 0) ∧ wq.frozen? ⟨w.heap.size + 1, 0, none⟩ = false ∧ wq.cell? ⟨w.heap.size + 1, 1, none⟩ = some (.int .i64 0) ∧ wq.frozen? ⟨w.heap.size + 1, 1, none⟩ = false ∧ wq.cell? ⟨w.heap.size + 1 + 1, 0, none⟩ = some (.int .i64 0) ∧ wq.frozen? ⟨w.heap.size + 1 + 1, 0, none⟩ = false ∧ wq.cell? ⟨w.heap.size + 1 + 1, 1, none⟩ = some (.int .i64 0) ∧ wq.frozen? ⟨w.heap.size + 1 + 1, 1, none⟩ = false ∧ wq.cell? ⟨r, 0, none⟩ = some (.int .i64 ax) ∧ wq.cell? ⟨r, 1, none⟩ = some (.int .i64 ay) ∧ wq.cell? ⟨r + 1, 0, none⟩ = some (.int .i64 bx) ∧ wq.cell? ⟨r + 1, 1, none⟩ = some (.int .i64 by_) ∧ wq.cell? ⟨r + 1 + 1, 0, none⟩ = some (.int .i64 cx) ∧ wq.frozen? ⟨r + 1 + 1, 0, none⟩ = false ∧ wq.cell? ⟨r + 1 + 1, 1, none⟩ = some (.int .i64 cy) ∧ wq.frozen? ⟨r + 1 + 1, 1, none⟩ = false)) [(fun v => v = .pointer (some ⟨bs, 0, none⟩)), (fun v => v = .int .i64 p), IsI, (fun v => v = .int .i64 k), (fun v => v = .pointer (some ⟨bs, 0, none⟩)), (fun v => v = .int .i64 p), (fun v => v = .agg #[.int .i64 ax, .int .i64 ay]), IsP, (fun v => v = .pointer (some ⟨bs, 0, none⟩)), (fun v => v = .int .i64 p), (fun v => v = .agg #[.int .i64 bx, .int .i64 by_]), IsP, (fun v => v = .pointer (some ⟨bs, 0, none⟩)), (fun v => v = .int .i64 p), (fun v => v = .agg #[.int .i64 cx, .int .i64 cy]), IsP, IsI] (Reg.inh_cons ⟨_, rfl⟩ (Reg.inh_cons ⟨_, rfl⟩ (Reg.inh_cons ⟨.int .i64 0, _, rfl⟩ (Reg.inh_cons ⟨_, rfl⟩ (Reg.inh_cons ⟨_, rfl⟩ (Reg.inh_cons ⟨_, rfl⟩ (Reg.inh_cons ⟨_, rfl⟩ (Reg.inh_cons ⟨.agg #[.int .i64 0, .int .i64 0], _, _, rfl⟩ (Reg.inh_cons ⟨_, rfl⟩ (Reg.inh_cons ⟨_, rfl⟩ (Reg.inh_cons ⟨_, rfl⟩ (Reg.inh_cons ⟨.agg #[.int .i64 0, .int .i64 0], _, _, rfl⟩ (Reg.inh_cons ⟨_, rfl⟩ (Reg.inh_cons ⟨_, rfl⟩ (Reg.inh_cons ⟨_, rfl⟩ (Reg.inh_cons ⟨.agg #[.int .i64 0, .int .i64 0], _, _, rfl⟩ (Reg.inh_cons ⟨.int .i64 0, _, rfl⟩ (Reg.inh_nil)))))))))))))))))) ?_ ?_
      · exact hid ⟨hs.drew, grownBy_drew hG, keepC (Below.refl _ _).drew d40, keepF (Below.refl _ _).drew d40 g40, keepC (Below.refl _ _).drew d41, keepF (Below.refl _ _).drew d41 g41, keepC (Below.refl _ _).drew d50, keepF (Below.refl _ _).drew d50 g50, keepC (Below.refl _ _).drew d51, keepF (Below.refl _ _).drew d51 g51, keepC (Below.refl _ _).drew d60, keepF (Below.refl _ _).drew d60 g60, keepC (Below.refl _ _).drew d61, keepF (Below.refl _ _).drew d61 g61, keepC (Below.refl _ _).drew da0, keepC (Below.refl _ _).drew da1, keepC (Below.refl _ _).drew db0, keepC (Below.refl _ _).drew db1, keepC (Below.refl _ _).drew dc0, keepF (Below.refl _ _).drew dc0 gc0, keepC (Below.refl _ _).drew dc1, keepF (Below.refl _ _).drew dc1 gc1⟩
      clear hs hG d40 g40 d41 g41 d50 g50 d51 g51 d60 g60 d61 g61 da0 da1 db0 db1 dc0 gc0 dc1 gc1
      simp only [List.take_succ_cons, List.take_zero, List.drop_succ_cons, List.drop_zero]
      refine Reg.wpSq_val (fun wq hq => ?gs2x0) ?ks2x0
      case gs2x0 => (obtain ⟨hs, hG, d40, g40, d41, g41, d50, g50, d51, g51, d60, g60, d61, g61, da0, da1, db0, db1, dc0, gc0, dc1, gc1⟩ := hq.out; go_simp; first | done | (with_reducible rfl) | rfl)
      try simp only [Act.put, List.setIfInBounds_toArray, List.set_cons_zero, List.set_cons_succ]
      refine Reg.wpSq_val (fun wq hq => ?gs2x1) ?ks2x1
      case gs2x1 => (obtain ⟨hs, hG, d40, g40, d41, g41, d50, g50, d51, g51, d60, g60, d61, g61, da0, da1, db0, db1, dc0, gc0, dc1, gc1⟩ := hq.out; go_simp; first | done | (with_reducible rfl) | rfl)
      try simp only [Act.put, List.setIfInBounds_toArray, List.set_cons_zero, List.set_cons_succ]
      refine Reg.wpSq_step (fun wq hq => ?gs2x2) ?ks2x2
      case gs2x2 =>
        obtain ⟨hs, hG, d40, g40, d41, g41, d50, g50, d51, g51, d60, g60, d61, g61, da0, da1, db0, db1, dc0, gc0, dc1, gc1⟩ := hq.out
        refine Reg.sAt_call (f := 85) (args := #[.pointer (some ⟨bs, 0, none⟩), .int .i64 p]) (by go_simp) ?_
        refine (badField_any _ B bs v _ hs).mono ?_
        rintro e w' ⟨⟨q, rfl⟩, hs', hG'⟩
        replace g40 := frozenG hG' d40 (by dsimp only <;> omega) g40
        replace g41 := frozenG hG' d41 (by dsimp only <;> omega) g41
        replace g50 := frozenG hG' d50 (by dsimp only <;> omega) g50
        replace g51 := frozenG hG' d51 (by dsimp only <;> omega) g51
        replace g60 := frozenG hG' d60 (by dsimp only <;> omega) g60
        replace g61 := frozenG hG' d61 (by dsimp only <;> omega) g61
        replace gc0 := frozenG hG' dc0 (by dsimp only <;> omega) gc0
        replace gc1 := frozenG hG' dc1 (by dsimp only <;> omega) gc1
        replace d40 := cellG hG' d40 (by dsimp only <;> omega)
        replace d41 := cellG hG' d41 (by dsimp only <;> omega)
        replace d50 := cellG hG' d50 (by dsimp only <;> omega)
        replace d51 := cellG hG' d51 (by dsimp only <;> omega)
        replace d60 := cellG hG' d60 (by dsimp only <;> omega)
        replace d61 := cellG hG' d61 (by dsimp only <;> omega)
        replace da0 := cellG hG' da0 (by dsimp only <;> omega)
        replace da1 := cellG hG' da1 (by dsimp only <;> omega)
        replace db0 := cellG hG' db0 (by dsimp only <;> omega)
        replace db1 := cellG hG' db1 (by dsimp only <;> omega)
        replace dc0 := cellG hG' dc0 (by dsimp only <;> omega)
        replace dc1 := cellG hG' dc1 (by dsimp only <;> omega)
        replace hs := hs'
        replace hG := grownBy_trans hG hG'
        clear hs' hG'
        exact ⟨_, rfl, ⟨_, rfl⟩, hid ⟨hs, hG, d40, g40, d41, g41, d50, g50, d51, g51, d60, g60, d61, g61, da0, da1, db0, db1, dc0, gc0, dc1, gc1⟩⟩
      rintro _ ⟨q, rfl⟩
      try simp only [Act.put, List.setIfInBounds_toArray, List.set_cons_zero, List.set_cons_succ]
      refine Reg.wpSq_val (fun wq hq => ?gs2x3) ?ks2x3
      case gs2x3 => (obtain ⟨hs, hG, d40, g40, d41, g41, d50, g50, d51, g51, d60, g60, d61, g61, da0, da1, db0, db1, dc0, gc0, dc1, gc1⟩ := hq.out; go_simp; first | done | (with_reducible rfl) | rfl)
      try simp only [Act.put, List.setIfInBounds_toArray, List.set_cons_zero, List.set_cons_succ]
      refine Reg.wpSq_val (fun wq hq => ?gs2x4) ?ks2x4
      case gs2x4 => (obtain ⟨hs, hG, d40, g40, d41, g41, d50, g50, d51, g51, d60, g60, d61, g61, da0, da1, db0, db1, dc0, gc0, dc1, gc1⟩ := hq.out; go_simp; first | done | (with_reducible rfl) | rfl)
      try simp only [Act.put, List.setIfInBounds_toArray, List.set_cons_zero, List.set_cons_succ]
      refine Reg.wpSq_val (fun wq hq => ?gs2x5) ?ks2x5
      case gs2x5 => (obtain ⟨hs, hG, d40, g40, d41, g41, d50, g50, d51, g51, d60, g60, d61, g61, da0, da1, db0, db1, dc0, gc0, dc1, gc1⟩ := hq.out; go_simp; first | done | (with_reducible rfl) | rfl)
      try simp only [Act.put, List.setIfInBounds_toArray, List.set_cons_zero, List.set_cons_succ]
      refine Reg.wpSq_val (fun wq hq => ?gs2x6) ?ks2x6
      case gs2x6 => (obtain ⟨hs, hG, d40, g40, d41, g41, d50, g50, d51, g51, d60, g60, d61, g61, da0, da1, db0, db1, dc0, gc0, dc1, gc1⟩ := hq.out; go_simp; first | done | (with_reducible rfl) | rfl)
      try simp only [Act.put, List.setIfInBounds_toArray, List.set_cons_zero, List.set_cons_succ]
      refine Reg.wpSq_step (fun wq hq => ?gs2x7) ?ks2x7
      case gs2x7 =>
        obtain ⟨hs, hG, d40, g40, d41, g41, d50, g50, d51, g51, d60, g60, d61, g61, da0, da1, db0, db1, dc0, gc0, dc1, gc1⟩ := hq.out
        refine Reg.sAt_call (f := 86) (args := #[.pointer (some ⟨bs, 0, none⟩), .int .i64 p, .agg #[.int .i64 ax, .int .i64 ay]]) (by go_simp) ?_
        refine (badPoint_any _ _ _ B bs v _ hs).mono ?_
        rintro e w' ⟨⟨qx, qy, rfl⟩, hs', hG'⟩
        replace g40 := frozenG hG' d40 (by dsimp only <;> omega) g40
        replace g41 := frozenG hG' d41 (by dsimp only <;> omega) g41
        replace g50 := frozenG hG' d50 (by dsimp only <;> omega) g50
        replace g51 := frozenG hG' d51 (by dsimp only <;> omega) g51
        replace g60 := frozenG hG' d60 (by dsimp only <;> omega) g60
        replace g61 := frozenG hG' d61 (by dsimp only <;> omega) g61
        replace gc0 := frozenG hG' dc0 (by dsimp only <;> omega) gc0
        replace gc1 := frozenG hG' dc1 (by dsimp only <;> omega) gc1
        replace d40 := cellG hG' d40 (by dsimp only <;> omega)
        replace d41 := cellG hG' d41 (by dsimp only <;> omega)
        replace d50 := cellG hG' d50 (by dsimp only <;> omega)
        replace d51 := cellG hG' d51 (by dsimp only <;> omega)
        replace d60 := cellG hG' d60 (by dsimp only <;> omega)
        replace d61 := cellG hG' d61 (by dsimp only <;> omega)
        replace da0 := cellG hG' da0 (by dsimp only <;> omega)
        replace da1 := cellG hG' da1 (by dsimp only <;> omega)
        replace db0 := cellG hG' db0 (by dsimp only <;> omega)
        replace db1 := cellG hG' db1 (by dsimp only <;> omega)
        replace dc0 := cellG hG' dc0 (by dsimp only <;> omega)
        replace dc1 := cellG hG' dc1 (by dsimp only <;> omega)
        replace hs := hs'
        replace hG := grownBy_trans hG hG'
        clear hs' hG'
        exact ⟨_, rfl, ⟨_, _, rfl⟩, hid ⟨hs, hG, d40, g40, d41, g41, d50, g50, d51, g51, d60, g60, d61, g61, da0, da1, db0, db1, dc0, gc0, dc1, gc1⟩⟩
      rintro _ ⟨ux, uy, rfl⟩
      try simp only [Act.put, List.setIfInBounds_toArray, List.set_cons_zero, List.set_cons_succ]
      refine Reg.wpSq_val (fun wq hq => ?gs2x8) ?ks2x8
      case gs2x8 => (obtain ⟨hs, hG, d40, g40, d41, g41, d50, g50, d51, g51, d60, g60, d61, g61, da0, da1, db0, db1, dc0, gc0, dc1, gc1⟩ := hq.out; go_simp; first | done | (with_reducible rfl) | rfl)
      try simp only [Act.put, List.setIfInBounds_toArray, List.set_cons_zero, List.set_cons_succ]
      refine Reg.wpSq_val (fun wq hq => ?gs2x9) ?ks2x9
      case gs2x9 => (obtain ⟨hs, hG, d40, g40, d41, g41, d50, g50, d51, g51, d60, g60, d61, g61, da0, da1, db0, db1, dc0, gc0, dc1, gc1⟩ := hq.out; go_simp; first | done | (with_reducible rfl) | rfl)
      try simp only [Act.put, List.setIfInBounds_toArray, List.set_cons_zero, List.set_cons_succ]
      refine Reg.wpSq_val (fun wq hq => ?gs2x10) ?ks2x10
      case gs2x10 => (obtain ⟨hs, hG, d40, g40, d41, g41, d50, g50, d51, g51, d60, g60, d61, g61, da0, da1, db0, db1, dc0, gc0, dc1, gc1⟩ := hq.out; go_simp; first | done | (with_reducible rfl) | rfl)
      try simp only [Act.put, List.setIfInBounds_toArray, List.set_cons_zero, List.set_cons_succ]
      refine Reg.wpSq_step (fun wq hq => ?gs2x11) ?ks2x11
      case gs2x11 =>
        obtain ⟨hs, hG, d40, g40, d41, g41, d50, g50, d51, g51, d60, g60, d61, g61, da0, da1, db0, db1, dc0, gc0, dc1, gc1⟩ := hq.out
        refine Reg.sAt_call (f := 86) (args := #[.pointer (some ⟨bs, 0, none⟩), .int .i64 p, .agg #[.int .i64 bx, .int .i64 by_]]) (by go_simp) ?_
        refine (badPoint_any _ _ _ B bs v _ hs).mono ?_
        rintro e w' ⟨⟨qx, qy, rfl⟩, hs', hG'⟩
        replace g40 := frozenG hG' d40 (by dsimp only <;> omega) g40
        replace g41 := frozenG hG' d41 (by dsimp only <;> omega) g41
        replace g50 := frozenG hG' d50 (by dsimp only <;> omega) g50
        replace g51 := frozenG hG' d51 (by dsimp only <;> omega) g51
        replace g60 := frozenG hG' d60 (by dsimp only <;> omega) g60
        replace g61 := frozenG hG' d61 (by dsimp only <;> omega) g61
        replace gc0 := frozenG hG' dc0 (by dsimp only <;> omega) gc0
        replace gc1 := frozenG hG' dc1 (by dsimp only <;> omega) gc1
        replace d40 := cellG hG' d40 (by dsimp only <;> omega)
        replace d41 := cellG hG' d41 (by dsimp only <;> omega)
        replace d50 := cellG hG' d50 (by dsimp only <;> omega)
        replace d51 := cellG hG' d51 (by dsimp only <;> omega)
        replace d60 := cellG hG' d60 (by dsimp only <;> omega)
        replace d61 := cellG hG' d61 (by dsimp only <;> omega)
        replace da0 := cellG hG' da0 (by dsimp only <;> omega)
        replace da1 := cellG hG' da1 (by dsimp only <;> omega)
        replace db0 := cellG hG' db0 (by dsimp only <;> omega)
        replace db1 := cellG hG' db1 (by dsimp only <;> omega)
        replace dc0 := cellG hG' dc0 (by dsimp only <;> omega)
        replace dc1 := cellG hG' dc1 (by dsimp only <;> omega)
        replace hs := hs'
        replace hG := grownBy_trans hG hG'
        clear hs' hG'
        exact ⟨_, rfl, ⟨_, _, rfl⟩, hid ⟨hs, hG, d40, g40, d41, g41, d50, g50, d51, g51, d60, g60, d61, g61, da0, da1, db0, db1, dc0, gc0, dc1, gc1⟩⟩
      rintro _ ⟨vx, vy, rfl⟩
      try simp only [Act.put, List.setIfInBounds_toArray, List.set_cons_zero, List.set_cons_succ]
      refine Reg.wpSq_val (fun wq hq => ?gs2x12) ?ks2x12
      case gs2x12 => (obtain ⟨hs, hG, d40, g40, d41, g41, d50, g50, d51, g51, d60, g60, d61, g61, da0, da1, db0, db1, dc0, gc0, dc1, gc1⟩ := hq.out; go_simp; first | done | (with_reducible rfl) | rfl)
      try simp only [Act.put, List.setIfInBounds_toArray, List.set_cons_zero, List.set_cons_succ]
      refine Reg.wpSq_val (fun wq hq => ?gs2x13) ?ks2x13
      case gs2x13 => (obtain ⟨hs, hG, d40, g40, d41, g41, d50, g50, d51, g51, d60, g60, d61, g61, da0, da1, db0, db1, dc0, gc0, dc1, gc1⟩ := hq.out; go_simp; first | done | (with_reducible rfl) | rfl)
      try simp only [Act.put, List.setIfInBounds_toArray, List.set_cons_zero, List.set_cons_succ]
      refine Reg.wpSq_val (fun wq hq => ?gs2x14) ?ks2x14
      case gs2x14 => (obtain ⟨hs, hG, d40, g40, d41, g41, d50, g50, d51, g51, d60, g60, d61, g61, da0, da1, db0, db1, dc0, gc0, dc1, gc1⟩ := hq.out; go_simp; first | done | (with_reducible rfl) | rfl)
      try simp only [Act.put, List.setIfInBounds_toArray, List.set_cons_zero, List.set_cons_succ]
      refine Reg.wpSq_step (fun wq hq => ?gs2x15) ?ks2x15
      case gs2x15 =>
        obtain ⟨hs, hG, d40, g40, d41, g41, d50, g50, d51, g51, d60, g60, d61, g61, da0, da1, db0, db1, dc0, gc0, dc1, gc1⟩ := hq.out
        refine Reg.sAt_call (f := 86) (args := #[.pointer (some ⟨bs, 0, none⟩), .int .i64 p, .agg #[.int .i64 cx, .int .i64 cy]]) (by go_simp) ?_
        refine (badPoint_any _ _ _ B bs v _ hs).mono ?_
        rintro e w' ⟨⟨qx, qy, rfl⟩, hs', hG'⟩
        replace g40 := frozenG hG' d40 (by dsimp only <;> omega) g40
        replace g41 := frozenG hG' d41 (by dsimp only <;> omega) g41
        replace g50 := frozenG hG' d50 (by dsimp only <;> omega) g50
        replace g51 := frozenG hG' d51 (by dsimp only <;> omega) g51
        replace g60 := frozenG hG' d60 (by dsimp only <;> omega) g60
        replace g61 := frozenG hG' d61 (by dsimp only <;> omega) g61
        replace gc0 := frozenG hG' dc0 (by dsimp only <;> omega) gc0
        replace gc1 := frozenG hG' dc1 (by dsimp only <;> omega) gc1
        replace d40 := cellG hG' d40 (by dsimp only <;> omega)
        replace d41 := cellG hG' d41 (by dsimp only <;> omega)
        replace d50 := cellG hG' d50 (by dsimp only <;> omega)
        replace d51 := cellG hG' d51 (by dsimp only <;> omega)
        replace d60 := cellG hG' d60 (by dsimp only <;> omega)
        replace d61 := cellG hG' d61 (by dsimp only <;> omega)
        replace da0 := cellG hG' da0 (by dsimp only <;> omega)
        replace da1 := cellG hG' da1 (by dsimp only <;> omega)
        replace db0 := cellG hG' db0 (by dsimp only <;> omega)
        replace db1 := cellG hG' db1 (by dsimp only <;> omega)
        replace dc0 := cellG hG' dc0 (by dsimp only <;> omega)
        replace dc1 := cellG hG' dc1 (by dsimp only <;> omega)
        replace hs := hs'
        replace hG := grownBy_trans hG hG'
        clear hs' hG'
        exact ⟨_, rfl, ⟨_, _, rfl⟩, hid ⟨hs, hG, d40, g40, d41, g41, d50, g50, d51, g51, d60, g60, d61, g61, da0, da1, db0, db1, dc0, gc0, dc1, gc1⟩⟩
      rintro _ ⟨xx, xy, rfl⟩
      try simp only [Act.put, List.setIfInBounds_toArray, List.set_cons_zero, List.set_cons_succ]
      refine Reg.wpSq_step (fun wq hq => ?gs2x16) ?ks2x16
      case gs2x16 => exact Reg.sAt_val (v := .int .i64 q) (by go_simp; first | done | rfl) ⟨_, rfl⟩ hq
      rintro _ ⟨q2, rfl⟩
      try simp only [Act.put, List.setIfInBounds_toArray, List.set_cons_zero, List.set_cons_succ]
      intro w2 hq
      obtain ⟨hs, hG, d40, g40, d41, g41, d50, g50, d51, g51, d60, g60, d61, g61, da0, da1, db0, db1, dc0, gc0, dc1, gc1⟩ := hq.out
      clear hq
      change wpList _ _ _ _ _ _
      go_wp2_with fail
      try simp only [Exit.inBlock, Exit.then]
      refine bodyPost_ret (by simp [results, Try.results33, go_sem, d40, g40, d41, g41, d50, g50, d51, g51, d60, g60, d61, g61]; try rfl) rfl ?_
      exact ⟨⟨_, _, _, _, _, _, _, _, rfl⟩, by have hBf := below_grown (Below.refl w.heap.size w) hG (Nat.le_refl _) (by omega); go_grown⟩
    | true =>
      go_wp2_with (go_at_call 40; refine (l02Colour_any _ _).mono ?_; rintro e w' ⟨rfl, rfl⟩)
      generalize hW : (World.alloc (World.alloc (World.alloc w' (.cells #[.int .i64 ax, .int .i64 ay] 24)) (.cells #[.int .i64 bx, .int .i64 by_] 24)) (.cells #[.int .i64 cx, .int .i64 cy] 24)) = W3
      have da0 : W3.cell? ⟨w'.heap.size, 0, none⟩ = some (.int .i64 ax) := by subst hW; go_simp
      have da1 : W3.cell? ⟨w'.heap.size, 1, none⟩ = some (.int .i64 ay) := by subst hW; go_simp
      have db0 : W3.cell? ⟨w'.heap.size + 1, 0, none⟩ = some (.int .i64 bx) := by subst hW; go_simp
      have db1 : W3.cell? ⟨w'.heap.size + 1, 1, none⟩ = some (.int .i64 by_) := by subst hW; go_simp
      have dc0 : W3.cell? ⟨w'.heap.size + 1 + 1, 0, none⟩ = some (.int .i64 cx) := by subst hW; go_simp
      have gc0 : W3.frozen? ⟨w'.heap.size + 1 + 1, 0, none⟩ = false := by subst hW; go_simp
      have dc1 : W3.cell? ⟨w'.heap.size + 1 + 1, 1, none⟩ = some (.int .i64 cy) := by subst hW; go_simp
      have gc1 : W3.frozen? ⟨w'.heap.size + 1 + 1, 1, none⟩ = false := by subst hW; go_simp
      have hbn : Below w'.heap.size w' W3 := by subst hW; go_grown
      replace g40 := keepF hbn d40 g40
      replace g41 := keepF hbn d41 g41
      replace g50 := keepF hbn d50 g50
      replace g51 := keepF hbn d51 g51
      replace g60 := keepF hbn d60 g60
      replace g61 := keepF hbn d61 g61
      replace d40 := keepC hbn d40
      replace d41 := keepC hbn d41
      replace d50 := keepC hbn d50
      replace d51 := keepC hbn d51
      replace d60 := keepC hbn d60
      replace d61 := keepC hbn d61
      have hlt := hs.lt
      replace hs := hs.keep hbn
      replace hG := grownBy_trans hG (grown_below hbn)
      clear hW hbn
      generalize w'.heap.size = r at *
      clear w'
      refine (next_any 2 B bs v _ hs).mono ?_
      rintro e w' ⟨⟨q, rfl, hq0, hq1, _⟩, hs', hG'⟩
      replace g40 := frozenG hG' d40 (by dsimp only <;> omega) g40
      replace g41 := frozenG hG' d41 (by dsimp only <;> omega) g41
      replace g50 := frozenG hG' d50 (by dsimp only <;> omega) g50
      replace g51 := frozenG hG' d51 (by dsimp only <;> omega) g51
      replace g60 := frozenG hG' d60 (by dsimp only <;> omega) g60
      replace g61 := frozenG hG' d61 (by dsimp only <;> omega) g61
      replace gc0 := frozenG hG' dc0 (by dsimp only <;> omega) gc0
      replace gc1 := frozenG hG' dc1 (by dsimp only <;> omega) gc1
      replace d40 := cellG hG' d40 (by dsimp only <;> omega)
      replace d41 := cellG hG' d41 (by dsimp only <;> omega)
      replace d50 := cellG hG' d50 (by dsimp only <;> omega)
      replace d51 := cellG hG' d51 (by dsimp only <;> omega)
      replace d60 := cellG hG' d60 (by dsimp only <;> omega)
      replace d61 := cellG hG' d61 (by dsimp only <;> omega)
      replace da0 := cellG hG' da0 (by dsimp only <;> omega)
      replace da1 := cellG hG' da1 (by dsimp only <;> omega)
      replace db0 := cellG hG' db0 (by dsimp only <;> omega)
      replace db1 := cellG hG' db1 (by dsimp only <;> omega)
      replace dc0 := cellG hG' dc0 (by dsimp only <;> omega)
      replace dc1 := cellG hG' dc1 (by dsimp only <;> omega)
      replace hs := hs'
      replace hG := grownBy_trans hG hG'
      clear hs' hG'
      by_cases hz : q = 0
      · subst hz
        go_wp2_with fail
        have f1n := Int.emod_nonneg (bx - ax) (show p ≠ 0 by omega)
        have f1l := Int.emod_lt_of_pos (bx - ax) (show 0 < p by omega)
        have f2n := Int.emod_nonneg (by_ - ay) (show p ≠ 0 by omega)
        have f2l := Int.emod_lt_of_pos (by_ - ay) (show 0 < p by omega)
        obtain ⟨ma, hma⟩ : ∃ z : Int, Hid (z = Pl.nrm p (thU k ((bx - ax) % p) ((by_ - ay) % p)) (thV p k ((bx - ax) % p) ((by_ - ay) % p)) (thU k ((bx - ax) % p) ((by_ - ay) % p))) := ⟨_, hid rfl⟩
        have bma : 0 ≤ ma ∧ ma < p := by rw [hma.out]; exact Pl.nrm_bd (by omega)
        obtain ⟨ma1, ma2⟩ := bma
        obtain ⟨mb, hmb⟩ : ∃ z : Int, Hid (z = Pl.nrm p (thU k ((bx - ax) % p) ((by_ - ay) % p)) (thV p k ((bx - ax) % p) ((by_ - ay) % p)) (thV p k ((bx - ax) % p) ((by_ - ay) % p))) := ⟨_, hid rfl⟩
        have bmb : 0 ≤ mb ∧ mb < p := by rw [hmb.out]; exact Pl.nrm_bd (by omega)
        obtain ⟨mb1, mb2⟩ := bmb
        obtain ⟨mc, hmc⟩ : ∃ z : Int, Hid (z = Pl.nrm p (thU k ((bx - ax) % p) ((by_ - ay) % p)) (thV p k ((bx - ax) % p) ((by_ - ay) % p)) ((-((thU k ((bx - ax) % p) ((by_ - ay) % p)) * ax + (thV p k ((bx - ax) % p) ((by_ - ay) % p)) * ay)) % p)) := ⟨_, hid rfl⟩
        have bmc : 0 ≤ mc ∧ mc < p := by rw [hmc.out]; exact Pl.nrm_bd (by omega)
        obtain ⟨mc1, mc2⟩ := bmc
        have hB := below_grown (Below.refl w.heap.size w) hG (Nat.le_refl _) (by omega)
        have hlt5 := hs.lt
        refine Reg.wp_region_grow (by kernel_rfl) 8 9 (fun _ => (#[.int .i64 0, .int .i64 0, .int .i64 0], 28)) (by kernel_rfl) ?_ ?_
        · intro k o h1 h2 ho ρ wz
          obtain rfl : k = 8 := by omega
          all_goals (simp at ho; subst ho; first | rfl | go_simp | kernel_rfl)
        simp only [List.take_succ_cons, List.take_zero, List.drop_succ_cons, List.drop_zero]
        refine Reg.wpG_step (v := ?vr1x0) (fun wq hq => ?gr1x0) ?kr1x0
        case gr1x0 => (have q_d40 := keepC hq d40; have q_d41 := keepC hq d41; have q_d50 := keepC hq d50; have q_d51 := keepC hq d51; have q_d60 := keepC hq d60; have q_d61 := keepC hq d61; have q_da0 := keepC hq da0; have q_da1 := keepC hq da1; have q_db0 := keepC hq db0; have q_db1 := keepC hq db1; have q_dc0 := keepC hq dc0; have q_dc1 := keepC hq dc1; refine Reg.gAt_val ?_; go_simp; first | done | (with_reducible rfl) | rfl)
        try simp only [Act.put, List.setIfInBounds_toArray, List.set_cons_zero, List.set_cons_succ]
        refine Reg.wpG_step (v := ?vr1x1) (fun wq hq => ?gr1x1) ?kr1x1
        case gr1x1 => (have q_d40 := keepC hq d40; have q_d41 := keepC hq d41; have q_d50 := keepC hq d50; have q_d51 := keepC hq d51; have q_d60 := keepC hq d60; have q_d61 := keepC hq d61; have q_da0 := keepC hq da0; have q_da1 := keepC hq da1; have q_db0 := keepC hq db0; have q_db1 := keepC hq db1; have q_dc0 := keepC hq dc0; have q_dc1 := keepC hq dc1; refine Reg.gAt_val ?_; go_simp; first | done | (with_reducible rfl) | rfl)
        try simp only [Act.put, List.setIfInBounds_toArray, List.set_cons_zero, List.set_cons_succ]
        refine Reg.wpG_step (v := ?vr1x2) (fun wq hq => ?gr1x2) ?kr1x2
        case gr1x2 => (have q_d40 := keepC hq d40; have q_d41 := keepC hq d41; have q_d50 := keepC hq d50; have q_d51 := keepC hq d51; have q_d60 := keepC hq d60; have q_d61 := keepC hq d61; have q_da0 := keepC hq da0; have q_da1 := keepC hq da1; have q_db0 := keepC hq db0; have q_db1 := keepC hq db1; have q_dc0 := keepC hq dc0; have q_dc1 := keepC hq dc1; refine Reg.gAt_val ?_; go_simp; first | done | (with_reducible rfl) | rfl)
        try simp only [Act.put, List.setIfInBounds_toArray, List.set_cons_zero, List.set_cons_succ]
        refine Reg.wpG_step (v := ?vr1x3) (fun wq hq => ?gr1x3) ?kr1x3
        case gr1x3 => (have q_d40 := keepC hq d40; have q_d41 := keepC hq d41; have q_d50 := keepC hq d50; have q_d51 := keepC hq d51; have q_d60 := keepC hq d60; have q_d61 := keepC hq d61; have q_da0 := keepC hq da0; have q_da1 := keepC hq da1; have q_db0 := keepC hq db0; have q_db1 := keepC hq db1; have q_dc0 := keepC hq dc0; have q_dc1 := keepC hq dc1; refine Reg.gAt_val ?_; go_simp; first | done | (with_reducible rfl) | rfl)
        try simp only [Act.put, List.setIfInBounds_toArray, List.set_cons_zero, List.set_cons_succ]
        refine Reg.wpG_step (v := ?vr1x4) (fun wq hq => ?gr1x4) ?kr1x4
        case gr1x4 => (have q_d40 := keepC hq d40; have q_d41 := keepC hq d41; have q_d50 := keepC hq d50; have q_d51 := keepC hq d51; have q_d60 := keepC hq d60; have q_d61 := keepC hq d61; have q_da0 := keepC hq da0; have q_da1 := keepC hq da1; have q_db0 := keepC hq db0; have q_db1 := keepC hq db1; have q_dc0 := keepC hq dc0; have q_dc1 := keepC hq dc1; refine Reg.gAt_val ?_; go_simp; first | done | (with_reducible rfl) | rfl)
        try simp only [Act.put, List.setIfInBounds_toArray, List.set_cons_zero, List.set_cons_succ]
        refine Reg.wpG_step (v := .agg #[.int .i64 ((bx - ax) % p), .int .i64 ((by_ - ay) % p)]) (fun wq hq => ?gr1x5) ?kr1x5
        case gr1x5 => (unfold Reg.gAt; go_simp; (try refine Reg.quiet_enter ?_); exact l01Minus_any p bx by_ ax ay _ (by omega) (by omega) (by omega) (by omega) (by omega) (by omega) (by omega) (by omega) (by omega) (by omega))
        try simp only [Act.put, List.setIfInBounds_toArray, List.set_cons_zero, List.set_cons_succ]
        refine Reg.wpG_step (v := ?vr1x6) (fun wq hq => ?gr1x6) ?kr1x6
        case gr1x6 => (have q_d40 := keepC hq d40; have q_d41 := keepC hq d41; have q_d50 := keepC hq d50; have q_d51 := keepC hq d51; have q_d60 := keepC hq d60; have q_d61 := keepC hq d61; have q_da0 := keepC hq da0; have q_da1 := keepC hq da1; have q_db0 := keepC hq db0; have q_db1 := keepC hq db1; have q_dc0 := keepC hq dc0; have q_dc1 := keepC hq dc1; refine Reg.gAt_val ?_; go_simp; first | done | (with_reducible rfl) | rfl)
        try simp only [Act.put, List.setIfInBounds_toArray, List.set_cons_zero, List.set_cons_succ]
        refine Reg.wpG_step (v := .agg #[.int .i64 ma, .int .i64 mb, .int .i64 mc]) (fun wq hq => ?gr1x7) ?kr1x7
        case gr1x7 => (unfold Reg.gAt; go_simp; (try refine Reg.quiet_enter ?_); exact (by rw [hma.out, hmb.out, hmc.out]; exact l02Through_rng p k _ _ ax ay _ hf hk (by omega) (by omega) (by omega) (by omega) (by omega) (by omega) (by omega) (by omega)))
        try simp only [Act.put, List.setIfInBounds_toArray, List.set_cons_zero, List.set_cons_succ]
        intro w2 g hB2 hg hd
        obtain ⟨hge8, hblk8⟩ := hg 8 (by omega) (by omega)
        clear hg hd
        simp only [List.range'_succ, List.range'_zero, Reg.putPtrs, Reg.dst, Act.put, List.setIfInBounds_toArray, List.set_cons_zero, List.set_cons_succ, List.getElem?_cons_zero, List.getElem?_cons_succ, Option.bind_some]
        generalize g 8 = g8 at *
        obtain ⟨z80, z81, z82, y80, y81, y82⟩ := Reg.blk3 hblk8
        clear hblk8
        have hgw8 : w.heap.size ≤ g8 := Nat.le_trans hB.size hge8
        go_wp2_with fail
        generalize hW : (World.setCell (World.setCell (World.setCell w2 ⟨g8, 0, none⟩ (.int .i64 ma)) ⟨g8, 1, none⟩ (.int .i64 mb)) ⟨g8, 2, none⟩ (.int .i64 mc)) = W5
        have dm0 : W5.cell? ⟨g8, 0, none⟩ = some (.int .i64 ma) := by subst hW; simp [World.cell?_setCell_other, World.cell?_setCell_same, z80, z81, z82]
        have dm1 : W5.cell? ⟨g8, 1, none⟩ = some (.int .i64 mb) := by subst hW; simp [World.cell?_setCell_other, World.cell?_setCell_same, z80, z81, z82]
        have dm2 : W5.cell? ⟨g8, 2, none⟩ = some (.int .i64 mc) := by subst hW; simp [World.cell?_setCell_other, World.cell?_setCell_same, z80, z81, z82]
        have hbn : Below w'.heap.size w' W5 := by subst hW; exact ((hB2.setCell hge8 _).setCell hge8 _).setCell hge8 _
        replace g40 := keepF hbn d40 g40
        replace g41 := keepF hbn d41 g41
        replace g50 := keepF hbn d50 g50
        replace g51 := keepF hbn d51 g51
        replace g60 := keepF hbn d60 g60
        replace g61 := keepF hbn d61 g61
        replace gc0 := keepF hbn dc0 gc0
        replace gc1 := keepF hbn dc1 gc1
        replace d40 := keepC hbn d40
        replace d41 := keepC hbn d41
        replace d50 := keepC hbn d50
        replace d51 := keepC hbn d51
        replace d60 := keepC hbn d60
        replace d61 := keepC hbn d61
        replace da0 := keepC hbn da0
        replace da1 := keepC hbn da1
        replace db0 := keepC hbn db0
        replace db1 := keepC hbn db1
        replace dc0 := keepC hbn dc0
        replace dc1 := keepC hbn dc1
        replace hs := hs.keep hbn
        replace hG := grownBy_trans hG (grown_below hbn)
        have hb8 := Nat.lt_of_lt_of_le hlt5 hge8
        clear hW hbn hB2 hge8 hB z80 z81 z82 y80 y81 y82
        have f3n := Int.emod_nonneg (-mb) (show p ≠ 0 by omega)
        have f3l := Int.emod_lt_of_pos (-mb) (show 0 < p by omega)
        refine Reg.wp_region_steps (by kernel_rfl) 11 (by kernel_rfl) (fun wq => Hid (Src wq B bs v ∧ w.grownBy wq (some bs) ∧ wq.cell? ⟨w.heap.size, 0, none⟩ = some (.int .i64 0) ∧ wq.frozen? ⟨w.heap.size, 0, none⟩ = false ∧ wq.cell? ⟨w.heap.size, 1, none⟩ = some (.int .i64 0) ∧ wq.frozen? ⟨w.heap.size, 1, none⟩ = false ∧ wq.cell? ⟨w.heap.size + 1, 0, none⟩ = some (.int .i64 0) ∧ wq.frozen? ⟨w.heap.size + 1, 0, none⟩ = false ∧ wq.cell? ⟨w.heap.size + 1, 1, none⟩ = some (.int .i64 0) ∧ wq.frozen? ⟨w.heap.size + 1, 1, none⟩ = false ∧ wq.cell? ⟨w.heap.size + 1 + 1, 0, none⟩ = some (.int .i64 0) ∧ wq.frozen? ⟨w.heap.size + 1 + 1, 0, none⟩ = false ∧ wq.cell? ⟨w.heap.size + 1 + 1, 1, none⟩ = some (.int .i64 0) ∧ wq.frozen? ⟨w.heap.size + 1 + 1, 1, none⟩ = false ∧ wq.cell? ⟨r, 0, none⟩ = some (.int .i64 ax) ∧ wq.cell? ⟨r, 1, none⟩ = some (.int .i64 ay) ∧ wq.cell? ⟨r + 1, 0, none⟩ = some (.int .i64 bx) ∧ wq.cell? ⟨r + 1, 1, none⟩ = some (.int .i64 by_) ∧ wq.cell? ⟨r + 1 + 1, 0, none⟩ = some (.int .i64 cx) ∧ wq.frozen? ⟨r + 1 + 1, 0, none⟩ = false ∧ wq.cell? ⟨r + 1 + 1, 1, none⟩ = some (.int .i64 cy) ∧ wq.frozen? ⟨r + 1 + 1, 1, none⟩ = false ∧ wq.cell? ⟨g8, 0, none⟩ = some (.int .i64 ma) ∧ wq.cell? ⟨g8, 1, none⟩ = some (.int .i64 mb) ∧ wq.cell? ⟨g8, 2, none⟩ = some (.int .i64 mc))) [(fun v => v = .int .i64 p), (fun v => v = .agg #[.int .i64 ax, .int .i64 ay]), (fun v => v = .int .i64 p), (fun v => v = .pointer (some ⟨bs, 0, none⟩)), (fun v => v = .int .i64 p), (IsN p), (fun v => v = .int .i64 p), (fun v => v = .agg #[.int .i64 ma, .int .i64 mb, .int .i64 mc]), (fun v => v = .agg #[.int .i64 ((-mb) % p), .int .i64 ma]), (IsPt p), (IsPt p)] (Reg.inh_cons ⟨_, rfl⟩ (Reg.inh_cons ⟨_, rfl⟩ (Reg.inh_cons ⟨_, rfl⟩ (Reg.inh_cons ⟨_, rfl⟩ (Reg.inh_cons ⟨_, rfl⟩ (Reg.inh_cons ⟨.int .i64 0, 0, rfl, by omega, by omega⟩ (Reg.inh_cons ⟨_, rfl⟩ (Reg.inh_cons ⟨_, rfl⟩ (Reg.inh_cons ⟨_, rfl⟩ (Reg.inh_cons ⟨.agg #[.int .i64 0, .int .i64 0], 0, 0, rfl, by omega, by omega, by omega, by omega⟩ (Reg.inh_cons ⟨.agg #[.int .i64 0, .int .i64 0], 0, 0, rfl, by omega, by omega, by omega, by omega⟩ (Reg.inh_nil)))))))))))) ?_ ?_
        · exact hid ⟨hs.drew, grownBy_drew hG, keepC (Below.refl _ _).drew d40, keepF (Below.refl _ _).drew d40 g40, keepC (Below.refl _ _).drew d41, keepF (Below.refl _ _).drew d41 g41, keepC (Below.refl _ _).drew d50, keepF (Below.refl _ _).drew d50 g50, keepC (Below.refl _ _).drew d51, keepF (Below.refl _ _).drew d51 g51, keepC (Below.refl _ _).drew d60, keepF (Below.refl _ _).drew d60 g60, keepC (Below.refl _ _).drew d61, keepF (Below.refl _ _).drew d61 g61, keepC (Below.refl _ _).drew da0, keepC (Below.refl _ _).drew da1, keepC (Below.refl _ _).drew db0, keepC (Below.refl _ _).drew db1, keepC (Below.refl _ _).drew dc0, keepF (Below.refl _ _).drew dc0 gc0, keepC (Below.refl _ _).drew dc1, keepF (Below.refl _ _).drew dc1 gc1, keepC (Below.refl _ _).drew dm0, keepC (Below.refl _ _).drew dm1, keepC (Below.refl _ _).drew dm2⟩
        clear hs hG d40 g40 d41 g41 d50 g50 d51 g51 d60 g60 d61 g61 da0 da1 db0 db1 dc0 gc0 dc1 gc1 dm0 dm1 dm2
        simp only [List.take_succ_cons, List.take_zero, List.drop_succ_cons, List.drop_zero]
        refine Reg.wpSq_val (fun wq hq => ?gs3x0) ?ks3x0
        case gs3x0 => (obtain ⟨hs, hG, d40, g40, d41, g41, d50, g50, d51, g51, d60, g60, d61, g61, da0, da1, db0, db1, dc0, gc0, dc1, gc1, dm0, dm1, dm2⟩ := hq.out; go_simp; first | done | (with_reducible rfl) | rfl)
        try simp only [Act.put, List.setIfInBounds_toArray, List.set_cons_zero, List.set_cons_succ]
        refine Reg.wpSq_val (fun wq hq => ?gs3x1) ?ks3x1
        case gs3x1 => (obtain ⟨hs, hG, d40, g40, d41, g41, d50, g50, d51, g51, d60, g60, d61, g61, da0, da1, db0, db1, dc0, gc0, dc1, gc1, dm0, dm1, dm2⟩ := hq.out; go_simp; first | done | (with_reducible rfl) | rfl)
        try simp only [Act.put, List.setIfInBounds_toArray, List.set_cons_zero, List.set_cons_succ]
        refine Reg.wpSq_val (fun wq hq => ?gs3x2) ?ks3x2
        case gs3x2 => (obtain ⟨hs, hG, d40, g40, d41, g41, d50, g50, d51, g51, d60, g60, d61, g61, da0, da1, db0, db1, dc0, gc0, dc1, gc1, dm0, dm1, dm2⟩ := hq.out; go_simp; first | done | (with_reducible rfl) | rfl)
        try simp only [Act.put, List.setIfInBounds_toArray, List.set_cons_zero, List.set_cons_succ]
        refine Reg.wpSq_val (fun wq hq => ?gs3x3) ?ks3x3
        case gs3x3 => (obtain ⟨hs, hG, d40, g40, d41, g41, d50, g50, d51, g51, d60, g60, d61, g61, da0, da1, db0, db1, dc0, gc0, dc1, gc1, dm0, dm1, dm2⟩ := hq.out; go_simp; first | done | (with_reducible rfl) | rfl)
        try simp only [Act.put, List.setIfInBounds_toArray, List.set_cons_zero, List.set_cons_succ]
        refine Reg.wpSq_val (fun wq hq => ?gs3x4) ?ks3x4
        case gs3x4 => (obtain ⟨hs, hG, d40, g40, d41, g41, d50, g50, d51, g51, d60, g60, d61, g61, da0, da1, db0, db1, dc0, gc0, dc1, gc1, dm0, dm1, dm2⟩ := hq.out; go_simp; first | done | (with_reducible rfl) | rfl)
        try simp only [Act.put, List.setIfInBounds_toArray, List.set_cons_zero, List.set_cons_succ]
        refine Reg.wpSq_step (fun wq hq => ?gs3x5) ?ks3x5
        case gs3x5 =>
          obtain ⟨hs, hG, d40, g40, d41, g41, d50, g50, d51, g51, d60, g60, d61, g61, da0, da1, db0, db1, dc0, gc0, dc1, gc1, dm0, dm1, dm2⟩ := hq.out
          refine Reg.sAt_call (f := 79) (args := #[.pointer (some ⟨bs, 0, none⟩), .int .i64 p]) (by go_simp) ?_
          refine (next_any p B bs v _ hs).mono ?_
          rintro e w' ⟨⟨q, rfl, hq0, hq1, _⟩, hs', hG'⟩
          replace g40 := frozenG hG' d40 (by dsimp only <;> omega) g40
          replace g41 := frozenG hG' d41 (by dsimp only <;> omega) g41
          replace g50 := frozenG hG' d50 (by dsimp only <;> omega) g50
          replace g51 := frozenG hG' d51 (by dsimp only <;> omega) g51
          replace g60 := frozenG hG' d60 (by dsimp only <;> omega) g60
          replace g61 := frozenG hG' d61 (by dsimp only <;> omega) g61
          replace gc0 := frozenG hG' dc0 (by dsimp only <;> omega) gc0
          replace gc1 := frozenG hG' dc1 (by dsimp only <;> omega) gc1
          replace d40 := cellG hG' d40 (by dsimp only <;> omega)
          replace d41 := cellG hG' d41 (by dsimp only <;> omega)
          replace d50 := cellG hG' d50 (by dsimp only <;> omega)
          replace d51 := cellG hG' d51 (by dsimp only <;> omega)
          replace d60 := cellG hG' d60 (by dsimp only <;> omega)
          replace d61 := cellG hG' d61 (by dsimp only <;> omega)
          replace da0 := cellG hG' da0 (by dsimp only <;> omega)
          replace da1 := cellG hG' da1 (by dsimp only <;> omega)
          replace db0 := cellG hG' db0 (by dsimp only <;> omega)
          replace db1 := cellG hG' db1 (by dsimp only <;> omega)
          replace dc0 := cellG hG' dc0 (by dsimp only <;> omega)
          replace dc1 := cellG hG' dc1 (by dsimp only <;> omega)
          replace dm0 := cellG hG' dm0 (by dsimp only <;> omega)
          replace dm1 := cellG hG' dm1 (by dsimp only <;> omega)
          replace dm2 := cellG hG' dm2 (by dsimp only <;> omega)
          replace hs := hs'
          replace hG := grownBy_trans hG hG'
          clear hs' hG'
          exact ⟨_, rfl, ⟨_, rfl, hq0, hq1 (by omega)⟩, hid ⟨hs, hG, d40, g40, d41, g41, d50, g50, d51, g51, d60, g60, d61, g61, da0, da1, db0, db1, dc0, gc0, dc1, gc1, dm0, dm1, dm2⟩⟩
        rintro _ ⟨t, rfl, t1, t2⟩
        try simp only [Act.put, List.setIfInBounds_toArray, List.set_cons_zero, List.set_cons_succ]
        refine Reg.wpSq_val (fun wq hq => ?gs3x6) ?ks3x6
        case gs3x6 => (obtain ⟨hs, hG, d40, g40, d41, g41, d50, g50, d51, g51, d60, g60, d61, g61, da0, da1, db0, db1, dc0, gc0, dc1, gc1, dm0, dm1, dm2⟩ := hq.out; go_simp; first | done | (with_reducible rfl) | rfl)
        try simp only [Act.put, List.setIfInBounds_toArray, List.set_cons_zero, List.set_cons_succ]
        refine Reg.wpSq_val (fun wq hq => ?gs3x7) ?ks3x7
        case gs3x7 => (obtain ⟨hs, hG, d40, g40, d41, g41, d50, g50, d51, g51, d60, g60, d61, g61, da0, da1, db0, db1, dc0, gc0, dc1, gc1, dm0, dm1, dm2⟩ := hq.out; go_simp; first | done | (with_reducible rfl) | rfl)
        try simp only [Act.put, List.setIfInBounds_toArray, List.set_cons_zero, List.set_cons_succ]
        refine Reg.wpSq_step (fun wq hq => ?gs3x8) ?ks3x8
        case gs3x8 =>
          obtain ⟨hs, hG, d40, g40, d41, g41, d50, g50, d51, g51, d60, g60, d61, g61, da0, da1, db0, db1, dc0, gc0, dc1, gc1, dm0, dm1, dm2⟩ := hq.out
          refine Reg.sAt_call (f := 84) (args := #[.int .i64 p, .agg #[.int .i64 ma, .int .i64 mb, .int .i64 mc]]) (by go_simp) ?_
          refine (l02Direction_any p ma mb mc _ (by omega) (by omega) (by omega) (by omega) (by omega) (by omega) (by omega) (by omega)).mono ?_
          rintro e w' ⟨rfl, hbn⟩
          replace g40 := keepF hbn d40 g40
          replace g41 := keepF hbn d41 g41
          replace g50 := keepF hbn d50 g50
          replace g51 := keepF hbn d51 g51
          replace g60 := keepF hbn d60 g60
          replace g61 := keepF hbn d61 g61
          replace gc0 := keepF hbn dc0 gc0
          replace gc1 := keepF hbn dc1 gc1
          replace d40 := keepC hbn d40
          replace d41 := keepC hbn d41
          replace d50 := keepC hbn d50
          replace d51 := keepC hbn d51
          replace d60 := keepC hbn d60
          replace d61 := keepC hbn d61
          replace da0 := keepC hbn da0
          replace da1 := keepC hbn da1
          replace db0 := keepC hbn db0
          replace db1 := keepC hbn db1
          replace dc0 := keepC hbn dc0
          replace dc1 := keepC hbn dc1
          replace dm0 := keepC hbn dm0
          replace dm1 := keepC hbn dm1
          replace dm2 := keepC hbn dm2
          replace hs := hs.keep hbn
          replace hG := grownBy_trans hG (grown_below hbn)
          clear hbn
          exact ⟨_, rfl, rfl, hid ⟨hs, hG, d40, g40, d41, g41, d50, g50, d51, g51, d60, g60, d61, g61, da0, da1, db0, db1, dc0, gc0, dc1, gc1, dm0, dm1, dm2⟩⟩
        rintro _ rfl
        try simp only [Act.put, List.setIfInBounds_toArray, List.set_cons_zero, List.set_cons_succ]
        refine Reg.wpSq_step (fun wq hq => ?gs3x9) ?ks3x9
        case gs3x9 =>
          obtain ⟨hs, hG, d40, g40, d41, g41, d50, g50, d51, g51, d60, g60, d61, g61, da0, da1, db0, db1, dc0, gc0, dc1, gc1, dm0, dm1, dm2⟩ := hq.out
          refine Reg.sAt_call (f := 83) (args := #[.int .i64 p, .int .i64 t, .agg #[.int .i64 ((-mb) % p), .int .i64 ma]]) (by go_simp) ?_
          refine (l01Times_any p t _ _ _ (by omega) (by omega) (by omega) (by omega) (by omega) (by omega) (by omega) (by omega)).mono ?_
          rintro e w' ⟨rfl, hbn⟩
          replace g40 := keepF hbn d40 g40
          replace g41 := keepF hbn d41 g41
          replace g50 := keepF hbn d50 g50
          replace g51 := keepF hbn d51 g51
          replace g60 := keepF hbn d60 g60
          replace g61 := keepF hbn d61 g61
          replace gc0 := keepF hbn dc0 gc0
          replace gc1 := keepF hbn dc1 gc1
          replace d40 := keepC hbn d40
          replace d41 := keepC hbn d41
          replace d50 := keepC hbn d50
          replace d51 := keepC hbn d51
          replace d60 := keepC hbn d60
          replace d61 := keepC hbn d61
          replace da0 := keepC hbn da0
          replace da1 := keepC hbn da1
          replace db0 := keepC hbn db0
          replace db1 := keepC hbn db1
          replace dc0 := keepC hbn dc0
          replace dc1 := keepC hbn dc1
          replace dm0 := keepC hbn dm0
          replace dm1 := keepC hbn dm1
          replace dm2 := keepC hbn dm2
          replace hs := hs.keep hbn
          replace hG := grownBy_trans hG (grown_below hbn)
          clear hbn
          exact ⟨_, rfl, ⟨_, _, rfl, Int.emod_nonneg _ (by omega), Int.emod_lt_of_pos _ (by omega), Int.emod_nonneg _ (by omega), Int.emod_lt_of_pos _ (by omega)⟩, hid ⟨hs, hG, d40, g40, d41, g41, d50, g50, d51, g51, d60, g60, d61, g61, da0, da1, db0, db1, dc0, gc0, dc1, gc1, dm0, dm1, dm2⟩⟩
        rintro _ ⟨tx, ty, rfl, tx1, tx2, ty1, ty2⟩
        try simp only [Act.put, List.setIfInBounds_toArray, List.set_cons_zero, List.set_cons_succ]
        refine Reg.wpSq_step (fun wq hq => ?gs3x10) ?ks3x10
        case gs3x10 =>
          obtain ⟨hs, hG, d40, g40, d41, g41, d50, g50, d51, g51, d60, g60, d61, g61, da0, da1, db0, db1, dc0, gc0, dc1, gc1, dm0, dm1, dm2⟩ := hq.out
          refine Reg.sAt_call (f := 82) (args := #[.int .i64 p, .agg #[.int .i64 ax, .int .i64 ay], .agg #[.int .i64 tx, .int .i64 ty]]) (by go_simp) ?_
          refine (l01Plus_any p ax ay tx ty _ (by omega) (by omega) (by omega) (by omega) (by omega) (by omega) (by omega) (by omega) (by omega) (by omega)).mono ?_
          rintro e w' ⟨rfl, hbn⟩
          replace g40 := keepF hbn d40 g40
          replace g41 := keepF hbn d41 g41
          replace g50 := keepF hbn d50 g50
          replace g51 := keepF hbn d51 g51
          replace g60 := keepF hbn d60 g60
          replace g61 := keepF hbn d61 g61
          replace gc0 := keepF hbn dc0 gc0
          replace gc1 := keepF hbn dc1 gc1
          replace d40 := keepC hbn d40
          replace d41 := keepC hbn d41
          replace d50 := keepC hbn d50
          replace d51 := keepC hbn d51
          replace d60 := keepC hbn d60
          replace d61 := keepC hbn d61
          replace da0 := keepC hbn da0
          replace da1 := keepC hbn da1
          replace db0 := keepC hbn db0
          replace db1 := keepC hbn db1
          replace dc0 := keepC hbn dc0
          replace dc1 := keepC hbn dc1
          replace dm0 := keepC hbn dm0
          replace dm1 := keepC hbn dm1
          replace dm2 := keepC hbn dm2
          replace hs := hs.keep hbn
          replace hG := grownBy_trans hG (grown_below hbn)
          clear hbn
          exact ⟨_, rfl, ⟨_, _, rfl, Int.emod_nonneg _ (by omega), Int.emod_lt_of_pos _ (by omega), Int.emod_nonneg _ (by omega), Int.emod_lt_of_pos _ (by omega)⟩, hid ⟨hs, hG, d40, g40, d41, g41, d50, g50, d51, g51, d60, g60, d61, g61, da0, da1, db0, db1, dc0, gc0, dc1, gc1, dm0, dm1, dm2⟩⟩
        rintro _ ⟨ex, ey, rfl, ex1, ex2, ey1, ey2⟩
        try simp only [Act.put, List.setIfInBounds_toArray, List.set_cons_zero, List.set_cons_succ]
        intro w2 hq
        obtain ⟨hs, hG, d40, g40, d41, g41, d50, g50, d51, g51, d60, g60, d61, g61, da0, da1, db0, db1, dc0, gc0, dc1, gc1, dm0, dm1, dm2⟩ := hq.out
        clear hq
        change wpList _ _ _ _ _ _
        go_wp2_with fail
        generalize hW : (World.setCell (World.setCell w2 ⟨r + 1 + 1, 0, none⟩ (.int .i64 ex)) ⟨r + 1 + 1, 1, none⟩ (.int .i64 ey)) = W6
        have de0 : W6.cell? ⟨r + 1 + 1, 0, none⟩ = some (.int .i64 ex) := by subst hW; simp [World.cell?_setCell_other, World.cell?_setCell_same, dc0, dc1]
        have ge0 : W6.frozen? ⟨r + 1 + 1, 0, none⟩ = false := by subst hW; simp [gc0, gc1]
        have de1 : W6.cell? ⟨r + 1 + 1, 1, none⟩ = some (.int .i64 ey) := by subst hW; simp [World.cell?_setCell_other, World.cell?_setCell_same, dc0, dc1]
        have ge1 : W6.frozen? ⟨r + 1 + 1, 1, none⟩ = false := by subst hW; simp [gc0, gc1]
        have hb6 : Below (r + 1 + 1) w2 W6 := by subst hW; exact ((Below.refl (r + 1 + 1) w2).setCell (p := ⟨r + 1 + 1, 0, none⟩) (Nat.le_refl _) _).setCell (p := ⟨r + 1 + 1, 1, none⟩) (Nat.le_refl _) _
        replace d40 := cellOf hb6 d40 (by dsimp only <;> omega)
        replace g40 := frozenOf hb6 g40 (by dsimp only <;> omega)
        replace d41 := cellOf hb6 d41 (by dsimp only <;> omega)
        replace g41 := frozenOf hb6 g41 (by dsimp only <;> omega)
        replace d50 := cellOf hb6 d50 (by dsimp only <;> omega)
        replace g50 := frozenOf hb6 g50 (by dsimp only <;> omega)
        replace d51 := cellOf hb6 d51 (by dsimp only <;> omega)
        replace g51 := frozenOf hb6 g51 (by dsimp only <;> omega)
        replace d60 := cellOf hb6 d60 (by dsimp only <;> omega)
        replace g60 := frozenOf hb6 g60 (by dsimp only <;> omega)
        replace d61 := cellOf hb6 d61 (by dsimp only <;> omega)
        replace g61 := frozenOf hb6 g61 (by dsimp only <;> omega)
        replace da0 := cellOf hb6 da0 (by dsimp only <;> omega)
        replace da1 := cellOf hb6 da1 (by dsimp only <;> omega)
        replace db0 := cellOf hb6 db0 (by dsimp only <;> omega)
        replace db1 := cellOf hb6 db1 (by dsimp only <;> omega)
        replace hs : Src W6 B bs v := by subst hW; exact (hs.other (by dsimp only <;> omega) (by dsimp only <;> omega) _).other (by dsimp only <;> omega) (by dsimp only <;> omega) _
        replace hG : w.grownBy W6 (some bs) := by subst hW; exact grownBy_new (grownBy_new hG (by omega) _ _) (by omega) _ _
        clear hW hb6 dc0 dc1 gc0 gc1 dm0 dm1 dm2 w2
        refine Reg.wp_region_steps (by kernel_rfl) 17 (by kernel_rfl) (fun wq => Hid (Src wq B bs v ∧ w.grownBy wq (some bs) ∧ wq.cell? ⟨w.heap.size, 0, none⟩ = some (.int .i64 0) ∧ wq.frozen? ⟨w.heap.size, 0, none⟩ = false ∧ wq.cell? ⟨w.heap.size, 1, none⟩ = some (.int .i64 0) ∧ wq.frozen? ⟨w.heap.size, 1, none⟩ = false ∧ wq.cell? ⟨w.heap.size + 1, 0, none⟩ = some (.int .i64 0) ∧ wq.frozen? ⟨w.heap.size + 1, 0, none⟩ = false ∧ wq.cell? ⟨w.heap.size + 1, 1, none⟩ = some (.int .i64 0) ∧ wq.frozen? ⟨w.heap.size + 1, 1, none⟩ = false ∧ wq.cell? ⟨w.heap.size + 1 + 1, 0, none⟩ = some (.int .i64 0) ∧ wq.frozen? ⟨w.heap.size + 1 + 1, 0, none⟩ = false ∧ wq.cell? ⟨w.heap.size + 1 + 1, 1, none⟩ = some (.int .i64 0) ∧ wq.frozen? ⟨w.heap.size + 1 + 1, 1, none⟩ = false ∧ wq.cell? ⟨r, 0, none⟩ = some (.int .i64 ax) ∧ wq.cell? ⟨r, 1, none⟩ = some (.int .i64 ay) ∧ wq.cell? ⟨r + 1, 0, none⟩ = some (.int .i64 bx) ∧ wq.cell? ⟨r + 1, 1, none⟩ = some (.int .i64 by_) ∧ wq.cell? ⟨r + 1 + 1, 0, none⟩ = some (.int .i64 ex) ∧ wq.frozen? ⟨r + 1 + 1, 0, none⟩ = false ∧ wq.cell? ⟨r + 1 + 1, 1, none⟩ = some (.int .i64 ey) ∧ wq.frozen? ⟨r + 1 + 1, 1, none⟩ = false)) [(fun v => v = .pointer (some ⟨bs, 0, none⟩)), (fun v => v = .int .i64 p), IsI, (fun v => v = .int .i64 k), (fun v => v = .pointer (some ⟨bs, 0, none⟩)), (fun v => v = .int .i64 p), (fun v => v = .agg #[.int .i64 ax, .int .i64 ay]), IsP, (fun v => v = .pointer (some ⟨bs, 0, none⟩)), (fun v => v = .int .i64 p), (fun v => v = .agg #[.int .i64 bx, .int .i64 by_]), IsP, (fun v => v = .pointer (some ⟨bs, 0, none⟩)), (fun v => v = .int .i64 p), (fun v => v = .agg #[.int .i64 ex, .int .i64 ey]), IsP, IsI] (Reg.inh_cons ⟨_, rfl⟩ (Reg.inh_cons ⟨_, rfl⟩ (Reg.inh_cons ⟨.int .i64 0, _, rfl⟩ (Reg.inh_cons ⟨_, rfl⟩ (Reg.inh_cons ⟨_, rfl⟩ (Reg.inh_cons ⟨_, rfl⟩ (Reg.inh_cons ⟨_, rfl⟩ (Reg.inh_cons ⟨.agg #[.int .i64 0, .int .i64 0], _, _, rfl⟩ (Reg.inh_cons ⟨_, rfl⟩ (Reg.inh_cons ⟨_, rfl⟩ (Reg.inh_cons ⟨_, rfl⟩ (Reg.inh_cons ⟨.agg #[.int .i64 0, .int .i64 0], _, _, rfl⟩ (Reg.inh_cons ⟨_, rfl⟩ (Reg.inh_cons ⟨_, rfl⟩ (Reg.inh_cons ⟨_, rfl⟩ (Reg.inh_cons ⟨.agg #[.int .i64 0, .int .i64 0], _, _, rfl⟩ (Reg.inh_cons ⟨.int .i64 0, _, rfl⟩ (Reg.inh_nil)))))))))))))))))) ?_ ?_
        · exact hid ⟨hs.drew, grownBy_drew hG, keepC (Below.refl _ _).drew d40, keepF (Below.refl _ _).drew d40 g40, keepC (Below.refl _ _).drew d41, keepF (Below.refl _ _).drew d41 g41, keepC (Below.refl _ _).drew d50, keepF (Below.refl _ _).drew d50 g50, keepC (Below.refl _ _).drew d51, keepF (Below.refl _ _).drew d51 g51, keepC (Below.refl _ _).drew d60, keepF (Below.refl _ _).drew d60 g60, keepC (Below.refl _ _).drew d61, keepF (Below.refl _ _).drew d61 g61, keepC (Below.refl _ _).drew da0, keepC (Below.refl _ _).drew da1, keepC (Below.refl _ _).drew db0, keepC (Below.refl _ _).drew db1, keepC (Below.refl _ _).drew de0, keepF (Below.refl _ _).drew de0 ge0, keepC (Below.refl _ _).drew de1, keepF (Below.refl _ _).drew de1 ge1⟩
        clear hs hG d40 g40 d41 g41 d50 g50 d51 g51 d60 g60 d61 g61 da0 da1 db0 db1 de0 ge0 de1 ge1
        simp only [List.take_succ_cons, List.take_zero, List.drop_succ_cons, List.drop_zero]
        refine Reg.wpSq_val (fun wq hq => ?gs4x0) ?ks4x0
        case gs4x0 => (obtain ⟨hs, hG, d40, g40, d41, g41, d50, g50, d51, g51, d60, g60, d61, g61, da0, da1, db0, db1, de0, ge0, de1, ge1⟩ := hq.out; go_simp; first | done | (with_reducible rfl) | rfl)
        try simp only [Act.put, List.setIfInBounds_toArray, List.set_cons_zero, List.set_cons_succ]
        refine Reg.wpSq_val (fun wq hq => ?gs4x1) ?ks4x1
        case gs4x1 => (obtain ⟨hs, hG, d40, g40, d41, g41, d50, g50, d51, g51, d60, g60, d61, g61, da0, da1, db0, db1, de0, ge0, de1, ge1⟩ := hq.out; go_simp; first | done | (with_reducible rfl) | rfl)
        try simp only [Act.put, List.setIfInBounds_toArray, List.set_cons_zero, List.set_cons_succ]
        refine Reg.wpSq_step (fun wq hq => ?gs4x2) ?ks4x2
        case gs4x2 =>
          obtain ⟨hs, hG, d40, g40, d41, g41, d50, g50, d51, g51, d60, g60, d61, g61, da0, da1, db0, db1, de0, ge0, de1, ge1⟩ := hq.out
          refine Reg.sAt_call (f := 85) (args := #[.pointer (some ⟨bs, 0, none⟩), .int .i64 p]) (by go_simp) ?_
          refine (badField_any _ B bs v _ hs).mono ?_
          rintro e w' ⟨⟨q, rfl⟩, hs', hG'⟩
          replace g40 := frozenG hG' d40 (by dsimp only <;> omega) g40
          replace g41 := frozenG hG' d41 (by dsimp only <;> omega) g41
          replace g50 := frozenG hG' d50 (by dsimp only <;> omega) g50
          replace g51 := frozenG hG' d51 (by dsimp only <;> omega) g51
          replace g60 := frozenG hG' d60 (by dsimp only <;> omega) g60
          replace g61 := frozenG hG' d61 (by dsimp only <;> omega) g61
          replace ge0 := frozenG hG' de0 (by dsimp only <;> omega) ge0
          replace ge1 := frozenG hG' de1 (by dsimp only <;> omega) ge1
          replace d40 := cellG hG' d40 (by dsimp only <;> omega)
          replace d41 := cellG hG' d41 (by dsimp only <;> omega)
          replace d50 := cellG hG' d50 (by dsimp only <;> omega)
          replace d51 := cellG hG' d51 (by dsimp only <;> omega)
          replace d60 := cellG hG' d60 (by dsimp only <;> omega)
          replace d61 := cellG hG' d61 (by dsimp only <;> omega)
          replace da0 := cellG hG' da0 (by dsimp only <;> omega)
          replace da1 := cellG hG' da1 (by dsimp only <;> omega)
          replace db0 := cellG hG' db0 (by dsimp only <;> omega)
          replace db1 := cellG hG' db1 (by dsimp only <;> omega)
          replace de0 := cellG hG' de0 (by dsimp only <;> omega)
          replace de1 := cellG hG' de1 (by dsimp only <;> omega)
          replace hs := hs'
          replace hG := grownBy_trans hG hG'
          clear hs' hG'
          exact ⟨_, rfl, ⟨_, rfl⟩, hid ⟨hs, hG, d40, g40, d41, g41, d50, g50, d51, g51, d60, g60, d61, g61, da0, da1, db0, db1, de0, ge0, de1, ge1⟩⟩
        rintro _ ⟨q, rfl⟩
        try simp only [Act.put, List.setIfInBounds_toArray, List.set_cons_zero, List.set_cons_succ]
        refine Reg.wpSq_val (fun wq hq => ?gs4x3) ?ks4x3
        case gs4x3 => (obtain ⟨hs, hG, d40, g40, d41, g41, d50, g50, d51, g51, d60, g60, d61, g61, da0, da1, db0, db1, de0, ge0, de1, ge1⟩ := hq.out; go_simp; first | done | (with_reducible rfl) | rfl)
        try simp only [Act.put, List.setIfInBounds_toArray, List.set_cons_zero, List.set_cons_succ]
        refine Reg.wpSq_val (fun wq hq => ?gs4x4) ?ks4x4
        case gs4x4 => (obtain ⟨hs, hG, d40, g40, d41, g41, d50, g50, d51, g51, d60, g60, d61, g61, da0, da1, db0, db1, de0, ge0, de1, ge1⟩ := hq.out; go_simp; first | done | (with_reducible rfl) | rfl)
        try simp only [Act.put, List.setIfInBounds_toArray, List.set_cons_zero, List.set_cons_succ]
        refine Reg.wpSq_val (fun wq hq => ?gs4x5) ?ks4x5
        case gs4x5 => (obtain ⟨hs, hG, d40, g40, d41, g41, d50, g50, d51, g51, d60, g60, d61, g61, da0, da1, db0, db1, de0, ge0, de1, ge1⟩ := hq.out; go_simp; first | done | (with_reducible rfl) | rfl)
        try simp only [Act.put, List.setIfInBounds_toArray, List.set_cons_zero, List.set_cons_succ]
        refine Reg.wpSq_val (fun wq hq => ?gs4x6) ?ks4x6
        case gs4x6 => (obtain ⟨hs, hG, d40, g40, d41, g41, d50, g50, d51, g51, d60, g60, d61, g61, da0, da1, db0, db1, de0, ge0, de1, ge1⟩ := hq.out; go_simp; first | done | (with_reducible rfl) | rfl)
        try simp only [Act.put, List.setIfInBounds_toArray, List.set_cons_zero, List.set_cons_succ]
        refine Reg.wpSq_step (fun wq hq => ?gs4x7) ?ks4x7
        case gs4x7 =>
          obtain ⟨hs, hG, d40, g40, d41, g41, d50, g50, d51, g51, d60, g60, d61, g61, da0, da1, db0, db1, de0, ge0, de1, ge1⟩ := hq.out
          refine Reg.sAt_call (f := 86) (args := #[.pointer (some ⟨bs, 0, none⟩), .int .i64 p, .agg #[.int .i64 ax, .int .i64 ay]]) (by go_simp) ?_
          refine (badPoint_any _ _ _ B bs v _ hs).mono ?_
          rintro e w' ⟨⟨qx, qy, rfl⟩, hs', hG'⟩
          replace g40 := frozenG hG' d40 (by dsimp only <;> omega) g40
          replace g41 := frozenG hG' d41 (by dsimp only <;> omega) g41
          replace g50 := frozenG hG' d50 (by dsimp only <;> omega) g50
          replace g51 := frozenG hG' d51 (by dsimp only <;> omega) g51
          replace g60 := frozenG hG' d60 (by dsimp only <;> omega) g60
          replace g61 := frozenG hG' d61 (by dsimp only <;> omega) g61
          replace ge0 := frozenG hG' de0 (by dsimp only <;> omega) ge0
          replace ge1 := frozenG hG' de1 (by dsimp only <;> omega) ge1
          replace d40 := cellG hG' d40 (by dsimp only <;> omega)
          replace d41 := cellG hG' d41 (by dsimp only <;> omega)
          replace d50 := cellG hG' d50 (by dsimp only <;> omega)
          replace d51 := cellG hG' d51 (by dsimp only <;> omega)
          replace d60 := cellG hG' d60 (by dsimp only <;> omega)
          replace d61 := cellG hG' d61 (by dsimp only <;> omega)
          replace da0 := cellG hG' da0 (by dsimp only <;> omega)
          replace da1 := cellG hG' da1 (by dsimp only <;> omega)
          replace db0 := cellG hG' db0 (by dsimp only <;> omega)
          replace db1 := cellG hG' db1 (by dsimp only <;> omega)
          replace de0 := cellG hG' de0 (by dsimp only <;> omega)
          replace de1 := cellG hG' de1 (by dsimp only <;> omega)
          replace hs := hs'
          replace hG := grownBy_trans hG hG'
          clear hs' hG'
          exact ⟨_, rfl, ⟨_, _, rfl⟩, hid ⟨hs, hG, d40, g40, d41, g41, d50, g50, d51, g51, d60, g60, d61, g61, da0, da1, db0, db1, de0, ge0, de1, ge1⟩⟩
        rintro _ ⟨ux, uy, rfl⟩
        try simp only [Act.put, List.setIfInBounds_toArray, List.set_cons_zero, List.set_cons_succ]
        refine Reg.wpSq_val (fun wq hq => ?gs4x8) ?ks4x8
        case gs4x8 => (obtain ⟨hs, hG, d40, g40, d41, g41, d50, g50, d51, g51, d60, g60, d61, g61, da0, da1, db0, db1, de0, ge0, de1, ge1⟩ := hq.out; go_simp; first | done | (with_reducible rfl) | rfl)
        try simp only [Act.put, List.setIfInBounds_toArray, List.set_cons_zero, List.set_cons_succ]
        refine Reg.wpSq_val (fun wq hq => ?gs4x9) ?ks4x9
        case gs4x9 => (obtain ⟨hs, hG, d40, g40, d41, g41, d50, g50, d51, g51, d60, g60, d61, g61, da0, da1, db0, db1, de0, ge0, de1, ge1⟩ := hq.out; go_simp; first | done | (with_reducible rfl) | rfl)
        try simp only [Act.put, List.setIfInBounds_toArray, List.set_cons_zero, List.set_cons_succ]
        refine Reg.wpSq_val (fun wq hq => ?gs4x10) ?ks4x10
        case gs4x10 => (obtain ⟨hs, hG, d40, g40, d41, g41, d50, g50, d51, g51, d60, g60, d61, g61, da0, da1, db0, db1, de0, ge0, de1, ge1⟩ := hq.out; go_simp; first | done | (with_reducible rfl) | rfl)
        try simp only [Act.put, List.setIfInBounds_toArray, List.set_cons_zero, List.set_cons_succ]
        refine Reg.wpSq_step (fun wq hq => ?gs4x11) ?ks4x11
        case gs4x11 =>
          obtain ⟨hs, hG, d40, g40, d41, g41, d50, g50, d51, g51, d60, g60, d61, g61, da0, da1, db0, db1, de0, ge0, de1, ge1⟩ := hq.out
          refine Reg.sAt_call (f := 86) (args := #[.pointer (some ⟨bs, 0, none⟩), .int .i64 p, .agg #[.int .i64 bx, .int .i64 by_]]) (by go_simp) ?_
          refine (badPoint_any _ _ _ B bs v _ hs).mono ?_
          rintro e w' ⟨⟨qx, qy, rfl⟩, hs', hG'⟩
          replace g40 := frozenG hG' d40 (by dsimp only <;> omega) g40
          replace g41 := frozenG hG' d41 (by dsimp only <;> omega) g41
          replace g50 := frozenG hG' d50 (by dsimp only <;> omega) g50
          replace g51 := frozenG hG' d51 (by dsimp only <;> omega) g51
          replace g60 := frozenG hG' d60 (by dsimp only <;> omega) g60
          replace g61 := frozenG hG' d61 (by dsimp only <;> omega) g61
          replace ge0 := frozenG hG' de0 (by dsimp only <;> omega) ge0
          replace ge1 := frozenG hG' de1 (by dsimp only <;> omega) ge1
          replace d40 := cellG hG' d40 (by dsimp only <;> omega)
          replace d41 := cellG hG' d41 (by dsimp only <;> omega)
          replace d50 := cellG hG' d50 (by dsimp only <;> omega)
          replace d51 := cellG hG' d51 (by dsimp only <;> omega)
          replace d60 := cellG hG' d60 (by dsimp only <;> omega)
          replace d61 := cellG hG' d61 (by dsimp only <;> omega)
          replace da0 := cellG hG' da0 (by dsimp only <;> omega)
          replace da1 := cellG hG' da1 (by dsimp only <;> omega)
          replace db0 := cellG hG' db0 (by dsimp only <;> omega)
          replace db1 := cellG hG' db1 (by dsimp only <;> omega)
          replace de0 := cellG hG' de0 (by dsimp only <;> omega)
          replace de1 := cellG hG' de1 (by dsimp only <;> omega)
          replace hs := hs'
          replace hG := grownBy_trans hG hG'
          clear hs' hG'
          exact ⟨_, rfl, ⟨_, _, rfl⟩, hid ⟨hs, hG, d40, g40, d41, g41, d50, g50, d51, g51, d60, g60, d61, g61, da0, da1, db0, db1, de0, ge0, de1, ge1⟩⟩
        rintro _ ⟨vx, vy, rfl⟩
        try simp only [Act.put, List.setIfInBounds_toArray, List.set_cons_zero, List.set_cons_succ]
        refine Reg.wpSq_val (fun wq hq => ?gs4x12) ?ks4x12
        case gs4x12 => (obtain ⟨hs, hG, d40, g40, d41, g41, d50, g50, d51, g51, d60, g60, d61, g61, da0, da1, db0, db1, de0, ge0, de1, ge1⟩ := hq.out; go_simp; first | done | (with_reducible rfl) | rfl)
        try simp only [Act.put, List.setIfInBounds_toArray, List.set_cons_zero, List.set_cons_succ]
        refine Reg.wpSq_val (fun wq hq => ?gs4x13) ?ks4x13
        case gs4x13 => (obtain ⟨hs, hG, d40, g40, d41, g41, d50, g50, d51, g51, d60, g60, d61, g61, da0, da1, db0, db1, de0, ge0, de1, ge1⟩ := hq.out; go_simp; first | done | (with_reducible rfl) | rfl)
        try simp only [Act.put, List.setIfInBounds_toArray, List.set_cons_zero, List.set_cons_succ]
        refine Reg.wpSq_val (fun wq hq => ?gs4x14) ?ks4x14
        case gs4x14 => (obtain ⟨hs, hG, d40, g40, d41, g41, d50, g50, d51, g51, d60, g60, d61, g61, da0, da1, db0, db1, de0, ge0, de1, ge1⟩ := hq.out; go_simp; first | done | (with_reducible rfl) | rfl)
        try simp only [Act.put, List.setIfInBounds_toArray, List.set_cons_zero, List.set_cons_succ]
        refine Reg.wpSq_step (fun wq hq => ?gs4x15) ?ks4x15
        case gs4x15 =>
          obtain ⟨hs, hG, d40, g40, d41, g41, d50, g50, d51, g51, d60, g60, d61, g61, da0, da1, db0, db1, de0, ge0, de1, ge1⟩ := hq.out
          refine Reg.sAt_call (f := 86) (args := #[.pointer (some ⟨bs, 0, none⟩), .int .i64 p, .agg #[.int .i64 ex, .int .i64 ey]]) (by go_simp) ?_
          refine (badPoint_any _ _ _ B bs v _ hs).mono ?_
          rintro e w' ⟨⟨qx, qy, rfl⟩, hs', hG'⟩
          replace g40 := frozenG hG' d40 (by dsimp only <;> omega) g40
          replace g41 := frozenG hG' d41 (by dsimp only <;> omega) g41
          replace g50 := frozenG hG' d50 (by dsimp only <;> omega) g50
          replace g51 := frozenG hG' d51 (by dsimp only <;> omega) g51
          replace g60 := frozenG hG' d60 (by dsimp only <;> omega) g60
          replace g61 := frozenG hG' d61 (by dsimp only <;> omega) g61
          replace ge0 := frozenG hG' de0 (by dsimp only <;> omega) ge0
          replace ge1 := frozenG hG' de1 (by dsimp only <;> omega) ge1
          replace d40 := cellG hG' d40 (by dsimp only <;> omega)
          replace d41 := cellG hG' d41 (by dsimp only <;> omega)
          replace d50 := cellG hG' d50 (by dsimp only <;> omega)
          replace d51 := cellG hG' d51 (by dsimp only <;> omega)
          replace d60 := cellG hG' d60 (by dsimp only <;> omega)
          replace d61 := cellG hG' d61 (by dsimp only <;> omega)
          replace da0 := cellG hG' da0 (by dsimp only <;> omega)
          replace da1 := cellG hG' da1 (by dsimp only <;> omega)
          replace db0 := cellG hG' db0 (by dsimp only <;> omega)
          replace db1 := cellG hG' db1 (by dsimp only <;> omega)
          replace de0 := cellG hG' de0 (by dsimp only <;> omega)
          replace de1 := cellG hG' de1 (by dsimp only <;> omega)
          replace hs := hs'
          replace hG := grownBy_trans hG hG'
          clear hs' hG'
          exact ⟨_, rfl, ⟨_, _, rfl⟩, hid ⟨hs, hG, d40, g40, d41, g41, d50, g50, d51, g51, d60, g60, d61, g61, da0, da1, db0, db1, de0, ge0, de1, ge1⟩⟩
        rintro _ ⟨xx, xy, rfl⟩
        try simp only [Act.put, List.setIfInBounds_toArray, List.set_cons_zero, List.set_cons_succ]
        refine Reg.wpSq_step (fun wq hq => ?gs4x16) ?ks4x16
        case gs4x16 => exact Reg.sAt_val (v := .int .i64 q) (by go_simp; first | done | rfl) ⟨_, rfl⟩ hq
        rintro _ ⟨q2, rfl⟩
        try simp only [Act.put, List.setIfInBounds_toArray, List.set_cons_zero, List.set_cons_succ]
        intro w2 hq
        obtain ⟨hs, hG, d40, g40, d41, g41, d50, g50, d51, g51, d60, g60, d61, g61, da0, da1, db0, db1, de0, ge0, de1, ge1⟩ := hq.out
        clear hq
        change wpList _ _ _ _ _ _
        go_wp2_with fail
        try simp only [Exit.inBlock, Exit.then]
        refine bodyPost_ret (by simp [results, Try.results33, go_sem, d40, g40, d41, g41, d50, g50, d51, g51, d60, g60, d61, g61]; try rfl) rfl ?_
        exact ⟨⟨_, _, _, _, _, _, _, _, rfl⟩, by have hBf := below_grown (Below.refl w.heap.size w) hG (Nat.le_refl _) (by omega); go_grown⟩
      · go_wp2_with fail
        refine Reg.wp_region_steps (by kernel_rfl) 17 (by kernel_rfl) (fun wq => Hid (Src wq B bs v ∧ w.grownBy wq (some bs) ∧ wq.cell? ⟨w.heap.size, 0, none⟩ = some (.int .i64 0) ∧ wq.frozen? ⟨w.heap.size, 0, none⟩ = false ∧ wq.cell? ⟨w.heap.size, 1, none⟩ = some (.int .i64 0) ∧ wq.frozen? ⟨w.heap.size, 1, none⟩ = false ∧ wq.cell? ⟨w.heap.size + 1, 0, none⟩ = some (.int .i64 0) ∧ wq.frozen? ⟨w.heap.size + 1, 0, none⟩ = false ∧ wq.cell? ⟨w.heap.size + 1, 1, none⟩ = some (.int .i64 0) ∧ wq.frozen? ⟨w.heap.size + 1, 1, none⟩ = false ∧ wq.cell? ⟨w.heap.size + 1 + 1, 0, none⟩ = some (.int .i64 0) ∧ wq.frozen? ⟨w.heap.size + 1 + 1, 0, none⟩ = false ∧ wq.cell? ⟨w.heap.size + 1 + 1, 1, none⟩ = some (.int .i64 0) ∧ wq.frozen? ⟨w.heap.size + 1 + 1, 1, none⟩ = false ∧ wq.cell? ⟨r, 0, none⟩ = some (.int .i64 ax) ∧ wq.cell? ⟨r, 1, none⟩ = some (.int .i64 ay) ∧ wq.cell? ⟨r + 1, 0, none⟩ = some (.int .i64 bx) ∧ wq.cell? ⟨r + 1, 1, none⟩ = some (.int .i64 by_) ∧ wq.cell? ⟨r + 1 + 1, 0, none⟩ = some (.int .i64 cx) ∧ wq.frozen? ⟨r + 1 + 1, 0, none⟩ = false ∧ wq.cell? ⟨r + 1 + 1, 1, none⟩ = some (.int .i64 cy) ∧ wq.frozen? ⟨r + 1 + 1, 1, none⟩ = false)) [(fun v => v = .pointer (some ⟨bs, 0, none⟩)), (fun v => v = .int .i64 p), IsI, (fun v => v = .int .i64 k), (fun v => v = .pointer (some ⟨bs, 0, none⟩)), (fun v => v = .int .i64 p), (fun v => v = .agg #[.int .i64 ax, .int .i64 ay]), IsP, (fun v => v = .pointer (some ⟨bs, 0, none⟩)), (fun v => v = .int .i64 p), (fun v => v = .agg #[.int .i64 bx, .int .i64 by_]), IsP, (fun v => v = .pointer (some ⟨bs, 0, none⟩)), (fun v => v = .int .i64 p), (fun v => v = .agg #[.int .i64 cx, .int .i64 cy]), IsP, IsI] (Reg.inh_cons ⟨_, rfl⟩ (Reg.inh_cons ⟨_, rfl⟩ (Reg.inh_cons ⟨.int .i64 0, _, rfl⟩ (Reg.inh_cons ⟨_, rfl⟩ (Reg.inh_cons ⟨_, rfl⟩ (Reg.inh_cons ⟨_, rfl⟩ (Reg.inh_cons ⟨_, rfl⟩ (Reg.inh_cons ⟨.agg #[.int .i64 0, .int .i64 0], _, _, rfl⟩ (Reg.inh_cons ⟨_, rfl⟩ (Reg.inh_cons ⟨_, rfl⟩ (Reg.inh_cons ⟨_, rfl⟩ (Reg.inh_cons ⟨.agg #[.int .i64 0, .int .i64 0], _, _, rfl⟩ (Reg.inh_cons ⟨_, rfl⟩ (Reg.inh_cons ⟨_, rfl⟩ (Reg.inh_cons ⟨_, rfl⟩ (Reg.inh_cons ⟨.agg #[.int .i64 0, .int .i64 0], _, _, rfl⟩ (Reg.inh_cons ⟨.int .i64 0, _, rfl⟩ (Reg.inh_nil)))))))))))))))))) ?_ ?_
        · exact hid ⟨hs.drew, grownBy_drew hG, keepC (Below.refl _ _).drew d40, keepF (Below.refl _ _).drew d40 g40, keepC (Below.refl _ _).drew d41, keepF (Below.refl _ _).drew d41 g41, keepC (Below.refl _ _).drew d50, keepF (Below.refl _ _).drew d50 g50, keepC (Below.refl _ _).drew d51, keepF (Below.refl _ _).drew d51 g51, keepC (Below.refl _ _).drew d60, keepF (Below.refl _ _).drew d60 g60, keepC (Below.refl _ _).drew d61, keepF (Below.refl _ _).drew d61 g61, keepC (Below.refl _ _).drew da0, keepC (Below.refl _ _).drew da1, keepC (Below.refl _ _).drew db0, keepC (Below.refl _ _).drew db1, keepC (Below.refl _ _).drew dc0, keepF (Below.refl _ _).drew dc0 gc0, keepC (Below.refl _ _).drew dc1, keepF (Below.refl _ _).drew dc1 gc1⟩
        clear hs hG d40 g40 d41 g41 d50 g50 d51 g51 d60 g60 d61 g61 da0 da1 db0 db1 dc0 gc0 dc1 gc1
        simp only [List.take_succ_cons, List.take_zero, List.drop_succ_cons, List.drop_zero]
        refine Reg.wpSq_val (fun wq hq => ?gs5x0) ?ks5x0
        case gs5x0 => (obtain ⟨hs, hG, d40, g40, d41, g41, d50, g50, d51, g51, d60, g60, d61, g61, da0, da1, db0, db1, dc0, gc0, dc1, gc1⟩ := hq.out; go_simp; first | done | (with_reducible rfl) | rfl)
        try simp only [Act.put, List.setIfInBounds_toArray, List.set_cons_zero, List.set_cons_succ]
        refine Reg.wpSq_val (fun wq hq => ?gs5x1) ?ks5x1
        case gs5x1 => (obtain ⟨hs, hG, d40, g40, d41, g41, d50, g50, d51, g51, d60, g60, d61, g61, da0, da1, db0, db1, dc0, gc0, dc1, gc1⟩ := hq.out; go_simp; first | done | (with_reducible rfl) | rfl)
        try simp only [Act.put, List.setIfInBounds_toArray, List.set_cons_zero, List.set_cons_succ]
        refine Reg.wpSq_step (fun wq hq => ?gs5x2) ?ks5x2
        case gs5x2 =>
          obtain ⟨hs, hG, d40, g40, d41, g41, d50, g50, d51, g51, d60, g60, d61, g61, da0, da1, db0, db1, dc0, gc0, dc1, gc1⟩ := hq.out
          refine Reg.sAt_call (f := 85) (args := #[.pointer (some ⟨bs, 0, none⟩), .int .i64 p]) (by go_simp) ?_
          refine (badField_any _ B bs v _ hs).mono ?_
          rintro e w' ⟨⟨q, rfl⟩, hs', hG'⟩
          replace g40 := frozenG hG' d40 (by dsimp only <;> omega) g40
          replace g41 := frozenG hG' d41 (by dsimp only <;> omega) g41
          replace g50 := frozenG hG' d50 (by dsimp only <;> omega) g50
          replace g51 := frozenG hG' d51 (by dsimp only <;> omega) g51
          replace g60 := frozenG hG' d60 (by dsimp only <;> omega) g60
          replace g61 := frozenG hG' d61 (by dsimp only <;> omega) g61
          replace gc0 := frozenG hG' dc0 (by dsimp only <;> omega) gc0
          replace gc1 := frozenG hG' dc1 (by dsimp only <;> omega) gc1
          replace d40 := cellG hG' d40 (by dsimp only <;> omega)
          replace d41 := cellG hG' d41 (by dsimp only <;> omega)
          replace d50 := cellG hG' d50 (by dsimp only <;> omega)
          replace d51 := cellG hG' d51 (by dsimp only <;> omega)
          replace d60 := cellG hG' d60 (by dsimp only <;> omega)
          replace d61 := cellG hG' d61 (by dsimp only <;> omega)
          replace da0 := cellG hG' da0 (by dsimp only <;> omega)
          replace da1 := cellG hG' da1 (by dsimp only <;> omega)
          replace db0 := cellG hG' db0 (by dsimp only <;> omega)
          replace db1 := cellG hG' db1 (by dsimp only <;> omega)
          replace dc0 := cellG hG' dc0 (by dsimp only <;> omega)
          replace dc1 := cellG hG' dc1 (by dsimp only <;> omega)
          replace hs := hs'
          replace hG := grownBy_trans hG hG'
          clear hs' hG'
          exact ⟨_, rfl, ⟨_, rfl⟩, hid ⟨hs, hG, d40, g40, d41, g41, d50, g50, d51, g51, d60, g60, d61, g61, da0, da1, db0, db1, dc0, gc0, dc1, gc1⟩⟩
        rintro _ ⟨q, rfl⟩
        try simp only [Act.put, List.setIfInBounds_toArray, List.set_cons_zero, List.set_cons_succ]
        refine Reg.wpSq_val (fun wq hq => ?gs5x3) ?ks5x3
        case gs5x3 => (obtain ⟨hs, hG, d40, g40, d41, g41, d50, g50, d51, g51, d60, g60, d61, g61, da0, da1, db0, db1, dc0, gc0, dc1, gc1⟩ := hq.out; go_simp; first | done | (with_reducible rfl) | rfl)
        try simp only [Act.put, List.setIfInBounds_toArray, List.set_cons_zero, List.set_cons_succ]
        refine Reg.wpSq_val (fun wq hq => ?gs5x4) ?ks5x4
        case gs5x4 => (obtain ⟨hs, hG, d40, g40, d41, g41, d50, g50, d51, g51, d60, g60, d61, g61, da0, da1, db0, db1, dc0, gc0, dc1, gc1⟩ := hq.out; go_simp; first | done | (with_reducible rfl) | rfl)
        try simp only [Act.put, List.setIfInBounds_toArray, List.set_cons_zero, List.set_cons_succ]
        refine Reg.wpSq_val (fun wq hq => ?gs5x5) ?ks5x5
        case gs5x5 => (obtain ⟨hs, hG, d40, g40, d41, g41, d50, g50, d51, g51, d60, g60, d61, g61, da0, da1, db0, db1, dc0, gc0, dc1, gc1⟩ := hq.out; go_simp; first | done | (with_reducible rfl) | rfl)
        try simp only [Act.put, List.setIfInBounds_toArray, List.set_cons_zero, List.set_cons_succ]
        refine Reg.wpSq_val (fun wq hq => ?gs5x6) ?ks5x6
        case gs5x6 => (obtain ⟨hs, hG, d40, g40, d41, g41, d50, g50, d51, g51, d60, g60, d61, g61, da0, da1, db0, db1, dc0, gc0, dc1, gc1⟩ := hq.out; go_simp; first | done | (with_reducible rfl) | rfl)
        try simp only [Act.put, List.setIfInBounds_toArray, List.set_cons_zero, List.set_cons_succ]
        refine Reg.wpSq_step (fun wq hq => ?gs5x7) ?ks5x7
        case gs5x7 =>
          obtain ⟨hs, hG, d40, g40, d41, g41, d50, g50, d51, g51, d60, g60, d61, g61, da0, da1, db0, db1, dc0, gc0, dc1, gc1⟩ := hq.out
          refine Reg.sAt_call (f := 86) (args := #[.pointer (some ⟨bs, 0, none⟩), .int .i64 p, .agg #[.int .i64 ax, .int .i64 ay]]) (by go_simp) ?_
          refine (badPoint_any _ _ _ B bs v _ hs).mono ?_
          rintro e w' ⟨⟨qx, qy, rfl⟩, hs', hG'⟩
          replace g40 := frozenG hG' d40 (by dsimp only <;> omega) g40
          replace g41 := frozenG hG' d41 (by dsimp only <;> omega) g41
          replace g50 := frozenG hG' d50 (by dsimp only <;> omega) g50
          replace g51 := frozenG hG' d51 (by dsimp only <;> omega) g51
          replace g60 := frozenG hG' d60 (by dsimp only <;> omega) g60
          replace g61 := frozenG hG' d61 (by dsimp only <;> omega) g61
          replace gc0 := frozenG hG' dc0 (by dsimp only <;> omega) gc0
          replace gc1 := frozenG hG' dc1 (by dsimp only <;> omega) gc1
          replace d40 := cellG hG' d40 (by dsimp only <;> omega)
          replace d41 := cellG hG' d41 (by dsimp only <;> omega)
          replace d50 := cellG hG' d50 (by dsimp only <;> omega)
          replace d51 := cellG hG' d51 (by dsimp only <;> omega)
          replace d60 := cellG hG' d60 (by dsimp only <;> omega)
          replace d61 := cellG hG' d61 (by dsimp only <;> omega)
          replace da0 := cellG hG' da0 (by dsimp only <;> omega)
          replace da1 := cellG hG' da1 (by dsimp only <;> omega)
          replace db0 := cellG hG' db0 (by dsimp only <;> omega)
          replace db1 := cellG hG' db1 (by dsimp only <;> omega)
          replace dc0 := cellG hG' dc0 (by dsimp only <;> omega)
          replace dc1 := cellG hG' dc1 (by dsimp only <;> omega)
          replace hs := hs'
          replace hG := grownBy_trans hG hG'
          clear hs' hG'
          exact ⟨_, rfl, ⟨_, _, rfl⟩, hid ⟨hs, hG, d40, g40, d41, g41, d50, g50, d51, g51, d60, g60, d61, g61, da0, da1, db0, db1, dc0, gc0, dc1, gc1⟩⟩
        rintro _ ⟨ux, uy, rfl⟩
        try simp only [Act.put, List.setIfInBounds_toArray, List.set_cons_zero, List.set_cons_succ]
        refine Reg.wpSq_val (fun wq hq => ?gs5x8) ?ks5x8
        case gs5x8 => (obtain ⟨hs, hG, d40, g40, d41, g41, d50, g50, d51, g51, d60, g60, d61, g61, da0, da1, db0, db1, dc0, gc0, dc1, gc1⟩ := hq.out; go_simp; first | done | (with_reducible rfl) | rfl)
        try simp only [Act.put, List.setIfInBounds_toArray, List.set_cons_zero, List.set_cons_succ]
        refine Reg.wpSq_val (fun wq hq => ?gs5x9) ?ks5x9
        case gs5x9 => (obtain ⟨hs, hG, d40, g40, d41, g41, d50, g50, d51, g51, d60, g60, d61, g61, da0, da1, db0, db1, dc0, gc0, dc1, gc1⟩ := hq.out; go_simp; first | done | (with_reducible rfl) | rfl)
        try simp only [Act.put, List.setIfInBounds_toArray, List.set_cons_zero, List.set_cons_succ]
        refine Reg.wpSq_val (fun wq hq => ?gs5x10) ?ks5x10
        case gs5x10 => (obtain ⟨hs, hG, d40, g40, d41, g41, d50, g50, d51, g51, d60, g60, d61, g61, da0, da1, db0, db1, dc0, gc0, dc1, gc1⟩ := hq.out; go_simp; first | done | (with_reducible rfl) | rfl)
        try simp only [Act.put, List.setIfInBounds_toArray, List.set_cons_zero, List.set_cons_succ]
        refine Reg.wpSq_step (fun wq hq => ?gs5x11) ?ks5x11
        case gs5x11 =>
          obtain ⟨hs, hG, d40, g40, d41, g41, d50, g50, d51, g51, d60, g60, d61, g61, da0, da1, db0, db1, dc0, gc0, dc1, gc1⟩ := hq.out
          refine Reg.sAt_call (f := 86) (args := #[.pointer (some ⟨bs, 0, none⟩), .int .i64 p, .agg #[.int .i64 bx, .int .i64 by_]]) (by go_simp) ?_
          refine (badPoint_any _ _ _ B bs v _ hs).mono ?_
          rintro e w' ⟨⟨qx, qy, rfl⟩, hs', hG'⟩
          replace g40 := frozenG hG' d40 (by dsimp only <;> omega) g40
          replace g41 := frozenG hG' d41 (by dsimp only <;> omega) g41
          replace g50 := frozenG hG' d50 (by dsimp only <;> omega) g50
          replace g51 := frozenG hG' d51 (by dsimp only <;> omega) g51
          replace g60 := frozenG hG' d60 (by dsimp only <;> omega) g60
          replace g61 := frozenG hG' d61 (by dsimp only <;> omega) g61
          replace gc0 := frozenG hG' dc0 (by dsimp only <;> omega) gc0
          replace gc1 := frozenG hG' dc1 (by dsimp only <;> omega) gc1
          replace d40 := cellG hG' d40 (by dsimp only <;> omega)
          replace d41 := cellG hG' d41 (by dsimp only <;> omega)
          replace d50 := cellG hG' d50 (by dsimp only <;> omega)
          replace d51 := cellG hG' d51 (by dsimp only <;> omega)
          replace d60 := cellG hG' d60 (by dsimp only <;> omega)
          replace d61 := cellG hG' d61 (by dsimp only <;> omega)
          replace da0 := cellG hG' da0 (by dsimp only <;> omega)
          replace da1 := cellG hG' da1 (by dsimp only <;> omega)
          replace db0 := cellG hG' db0 (by dsimp only <;> omega)
          replace db1 := cellG hG' db1 (by dsimp only <;> omega)
          replace dc0 := cellG hG' dc0 (by dsimp only <;> omega)
          replace dc1 := cellG hG' dc1 (by dsimp only <;> omega)
          replace hs := hs'
          replace hG := grownBy_trans hG hG'
          clear hs' hG'
          exact ⟨_, rfl, ⟨_, _, rfl⟩, hid ⟨hs, hG, d40, g40, d41, g41, d50, g50, d51, g51, d60, g60, d61, g61, da0, da1, db0, db1, dc0, gc0, dc1, gc1⟩⟩
        rintro _ ⟨vx, vy, rfl⟩
        try simp only [Act.put, List.setIfInBounds_toArray, List.set_cons_zero, List.set_cons_succ]
        refine Reg.wpSq_val (fun wq hq => ?gs5x12) ?ks5x12
        case gs5x12 => (obtain ⟨hs, hG, d40, g40, d41, g41, d50, g50, d51, g51, d60, g60, d61, g61, da0, da1, db0, db1, dc0, gc0, dc1, gc1⟩ := hq.out; go_simp; first | done | (with_reducible rfl) | rfl)
        try simp only [Act.put, List.setIfInBounds_toArray, List.set_cons_zero, List.set_cons_succ]
        refine Reg.wpSq_val (fun wq hq => ?gs5x13) ?ks5x13
        case gs5x13 => (obtain ⟨hs, hG, d40, g40, d41, g41, d50, g50, d51, g51, d60, g60, d61, g61, da0, da1, db0, db1, dc0, gc0, dc1, gc1⟩ := hq.out; go_simp; first | done | (with_reducible rfl) | rfl)
        try simp only [Act.put, List.setIfInBounds_toArray, List.set_cons_zero, List.set_cons_succ]
        refine Reg.wpSq_val (fun wq hq => ?gs5x14) ?ks5x14
        case gs5x14 => (obtain ⟨hs, hG, d40, g40, d41, g41, d50, g50, d51, g51, d60, g60, d61, g61, da0, da1, db0, db1, dc0, gc0, dc1, gc1⟩ := hq.out; go_simp; first | done | (with_reducible rfl) | rfl)
        try simp only [Act.put, List.setIfInBounds_toArray, List.set_cons_zero, List.set_cons_succ]
        refine Reg.wpSq_step (fun wq hq => ?gs5x15) ?ks5x15
        case gs5x15 =>
          obtain ⟨hs, hG, d40, g40, d41, g41, d50, g50, d51, g51, d60, g60, d61, g61, da0, da1, db0, db1, dc0, gc0, dc1, gc1⟩ := hq.out
          refine Reg.sAt_call (f := 86) (args := #[.pointer (some ⟨bs, 0, none⟩), .int .i64 p, .agg #[.int .i64 cx, .int .i64 cy]]) (by go_simp) ?_
          refine (badPoint_any _ _ _ B bs v _ hs).mono ?_
          rintro e w' ⟨⟨qx, qy, rfl⟩, hs', hG'⟩
          replace g40 := frozenG hG' d40 (by dsimp only <;> omega) g40
          replace g41 := frozenG hG' d41 (by dsimp only <;> omega) g41
          replace g50 := frozenG hG' d50 (by dsimp only <;> omega) g50
          replace g51 := frozenG hG' d51 (by dsimp only <;> omega) g51
          replace g60 := frozenG hG' d60 (by dsimp only <;> omega) g60
          replace g61 := frozenG hG' d61 (by dsimp only <;> omega) g61
          replace gc0 := frozenG hG' dc0 (by dsimp only <;> omega) gc0
          replace gc1 := frozenG hG' dc1 (by dsimp only <;> omega) gc1
          replace d40 := cellG hG' d40 (by dsimp only <;> omega)
          replace d41 := cellG hG' d41 (by dsimp only <;> omega)
          replace d50 := cellG hG' d50 (by dsimp only <;> omega)
          replace d51 := cellG hG' d51 (by dsimp only <;> omega)
          replace d60 := cellG hG' d60 (by dsimp only <;> omega)
          replace d61 := cellG hG' d61 (by dsimp only <;> omega)
          replace da0 := cellG hG' da0 (by dsimp only <;> omega)
          replace da1 := cellG hG' da1 (by dsimp only <;> omega)
          replace db0 := cellG hG' db0 (by dsimp only <;> omega)
          replace db1 := cellG hG' db1 (by dsimp only <;> omega)
          replace dc0 := cellG hG' dc0 (by dsimp only <;> omega)
          replace dc1 := cellG hG' dc1 (by dsimp only <;> omega)
          replace hs := hs'
          replace hG := grownBy_trans hG hG'
          clear hs' hG'
          exact ⟨_, rfl, ⟨_, _, rfl⟩, hid ⟨hs, hG, d40, g40, d41, g41, d50, g50, d51, g51, d60, g60, d61, g61, da0, da1, db0, db1, dc0, gc0, dc1, gc1⟩⟩
        rintro _ ⟨xx, xy, rfl⟩
        try simp only [Act.put, List.setIfInBounds_toArray, List.set_cons_zero, List.set_cons_succ]
        refine Reg.wpSq_step (fun wq hq => ?gs5x16) ?ks5x16
        case gs5x16 => exact Reg.sAt_val (v := .int .i64 q) (by go_simp; first | done | rfl) ⟨_, rfl⟩ hq
        rintro _ ⟨q2, rfl⟩
        try simp only [Act.put, List.setIfInBounds_toArray, List.set_cons_zero, List.set_cons_succ]
        intro w2 hq
        obtain ⟨hs, hG, d40, g40, d41, g41, d50, g50, d51, g51, d60, g60, d61, g61, da0, da1, db0, db1, dc0, gc0, dc1, gc1⟩ := hq.out
        clear hq
        change wpList _ _ _ _ _ _
        go_wp2_with fail
        try simp only [Exit.inBlock, Exit.then]
        refine bodyPost_ret (by simp [results, Try.results33, go_sem, d40, g40, d41, g41, d50, g50, d51, g51, d60, g60, d61, g61]; try rfl) rfl ?_
        exact ⟨⟨_, _, _, _, _, _, _, _, rfl⟩, by have hBf := below_grown (Below.refl w.heap.size w) hG (Nat.le_refl _) (by omega); go_grown⟩
end Go.Proofs.Ytommkkgkfjmhdaa
