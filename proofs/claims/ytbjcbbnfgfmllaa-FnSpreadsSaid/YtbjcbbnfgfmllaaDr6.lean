/- Contracts: draws of layer 2. -/
import Derived.Test.YtbjcbbnfgfmllaaRes
import Derived.Test.YtbjcbbnfgfmllaaAgg
set_option linter.unusedVariables false
set_option linter.unusedSimpArgs false
set_option maxHeartbeats 1000000
set_option maxRecDepth 100000
namespace Go.Proofs.Ytbjcbbnfgfmllaa
open Go.RowKit
theorem field_of {p : Int} (h : p ∈ ([3, 5, 5, 7, 7, 11, 13, 13, 17, 19, 23, 29, 31] : List Int)) : Pl.fieldB p = true := by
  simp only [List.mem_cons, List.not_mem_nil, or_false] at h
  rcases h with rfl | rfl | rfl | rfl | rfl | rfl | rfl | rfl | rfl | rfl | rfl | rfl | rfl <;> decide
theorem Bytes.alloc {w : World} {B : Nat} {v : Value} (h : Bytes w B v) (o : Obj) : Bytes (w.alloc o) B v := by
  obtain ⟨o', n, c, h1, h2, h0, h3⟩ := h
  refine ⟨o', n, c, h1, h2, h0, fun ad ha => ⟨(h3 ad ha).1, fun j hj => ?_⟩⟩
  obtain ⟨b, h4, h5⟩ := (h3 ad ha).2 j hj
  exact ⟨b, keepA _ h4, h5⟩
theorem Bytes.raise {w : World} {B B' : Nat} {v : Value} (h : Bytes w B v) (hB : B ≤ B') : Bytes w B' v := by
  obtain ⟨o', n, c, h1, h2, h0, h3⟩ := h
  exact ⟨o', n, c, h1, h2, h0, fun ad ha => ⟨fun h => Nat.lt_of_lt_of_le ((h3 ad ha).1 h) hB, (h3 ad ha).2⟩⟩
def IsI (v : Value) : Prop := ∃ n : Int, v = .int .i64 n
def IsP (v : Value) : Prop := ∃ x y : Int, v = .agg #[.int .i64 x, .int .i64 y]
def IsL (v : Value) : Prop := ∃ a b c : Int, v = .agg #[.int .i64 a, .int .i64 b, .int .i64 c]
def IsPt (p : Int) (v : Value) : Prop := ∃ x y : Int, v = .agg #[.int .i64 x, .int .i64 y] ∧ 0 ≤ x ∧ x < p ∧ 0 ≤ y ∧ y < p
def IsN (p : Int) (v : Value) : Prop := ∃ n : Int, v = .int .i64 n ∧ 0 ≤ n ∧ n < p
theorem drawNumber_any (p : Int) (B bs : Nat) (v : Value) (w : World) (hs : Src w B bs v) :
    Calls Try.prog 109 #[.pointer (some ⟨bs, 0, none⟩), .int .i64 p] w fun e w' => AnyInt e ∧ Src w' B bs v ∧ w.grownBy w' (some bs) := by
  have hlt := hs.lt
  have hlow := hs.low
  have hG := World.grownBy.refl w (some bs)
  go_enter Try.func109, Try.ntmps109
  go_wp2_with (first | (go_at_call 97; refine (next_any _ B bs v _ hs).mono ?_; rintro e w' ⟨⟨q, rfl, hq0, hq1, _⟩, hs', hG'⟩; replace hs := hs'; replace hG := grownBy_trans hG hG') | (go_at_call 158; refine (pickL [-1, p, -4611686018427387904] 3 rfl (by omega) (by omega) B bs v _ hs _ _ rfl).mono ?_; rintro e w' ⟨⟨q, rfl, hq⟩, hs', hG'⟩; replace hs := hs'; replace hG := grownBy_trans hG hG'))
  all_goals go_ret
  all_goals exact ⟨⟨_, rfl⟩, hs, hG⟩
theorem two_any (v : Value) (w : World) (hv : Bytes w w.heap.size v) :
    Calls Try.prog 101 #[v] w fun e w' => (∃ o0 o1 o2x o2y o3x o3y : Int, e = .returned (.tuple #[.int .i64 o0, .int .i64 o1, .agg #[.int .i64 o2x, .int .i64 o2y], .agg #[.int .i64 o3x, .int .i64 o3y]])) ∧ Below w.heap.size w w' := by
  obtain ⟨B, hBw⟩ : ∃ B, B = w.heap.size := ⟨_, rfl⟩
  have hv0 : Bytes w B v := by rw [hBw]; exact hv
  clear hv
  go_enter Try.func101, Try.ntmps101
  go_wp2_with fail
  generalize hW : (World.alloc (World.alloc w (.cells #[.int .i64 0, .int .i64 0] 33)) (.cells #[.int .i64 0, .int .i64 0] 33)) = W
  have dr00 : W.cell? ⟨w.heap.size, 0, none⟩ = some (.int .i64 0) := by subst hW; go_simp
  have gr00 : W.frozen? ⟨w.heap.size, 0, none⟩ = false := by subst hW; go_simp
  have dr01 : W.cell? ⟨w.heap.size, 1, none⟩ = some (.int .i64 0) := by subst hW; go_simp
  have gr01 : W.frozen? ⟨w.heap.size, 1, none⟩ = false := by subst hW; go_simp
  have dr10 : W.cell? ⟨w.heap.size + 1, 0, none⟩ = some (.int .i64 0) := by subst hW; go_simp
  have gr10 : W.frozen? ⟨w.heap.size + 1, 0, none⟩ = false := by subst hW; go_simp
  have dr11 : W.cell? ⟨w.heap.size + 1, 1, none⟩ = some (.int .i64 0) := by subst hW; go_simp
  have gr11 : W.frozen? ⟨w.heap.size + 1, 1, none⟩ = false := by subst hW; go_simp
  have hv1 : Bytes W B v := by subst hW; exact ((hv0).alloc _).alloc _
  have hB : Below w.heap.size w W := by subst hW; go_grown
  have hbs : w.heap.size + 2 ≤ W.heap.size := by subst hW; simp
  clear hW hv0
  refine (from_any v B W hv1 (by omega)).mono ?_
  rintro e w1 ⟨rfl, hs, hbn⟩
  replace gr00 := keepF hbn dr00 gr00
  replace gr01 := keepF hbn dr01 gr01
  replace gr10 := keepF hbn dr10 gr10
  replace gr11 := keepF hbn dr11 gr11
  replace dr00 := keepC hbn dr00
  replace dr01 := keepC hbn dr01
  replace dr10 := keepC hbn dr10
  replace dr11 := keepC hbn dr11
  have hG : w.grownBy w1 (some W.heap.size) := grown_below (below_of hB hbn hB.size)
  clear hB hbn hv1
  generalize W.heap.size = bs at *
  clear W
  have hlow := hs.low
  go_wp2_with fail
  go_wp2_with fail
  refine (drawField_any B bs v _ hs).mono ?_
  rintro e w' ⟨⟨p, rfl, hpm⟩, hs', hG'⟩
  replace gr00 := frozenG hG' dr00 (by dsimp only <;> omega) gr00
  replace gr01 := frozenG hG' dr01 (by dsimp only <;> omega) gr01
  replace gr10 := frozenG hG' dr10 (by dsimp only <;> omega) gr10
  replace gr11 := frozenG hG' dr11 (by dsimp only <;> omega) gr11
  replace dr00 := cellG hG' dr00 (by dsimp only <;> omega)
  replace dr01 := cellG hG' dr01 (by dsimp only <;> omega)
  replace dr10 := cellG hG' dr10 (by dsimp only <;> omega)
  replace dr11 := cellG hG' dr11 (by dsimp only <;> omega)
  replace hs := hs'
  replace hG := grownBy_trans hG hG'
  clear hs' hG'
  have hf := field_of hpm
  have hp := Pl.field_bd hf
  obtain ⟨hp1, hp2⟩ := hp
  clear hpm
  go_wp2_with fail
  refine (drawPoint_any p (by omega) B bs v _ hs).mono ?_
  rintro e w' ⟨⟨ax, ay, rfl, ax1, ax2, ay1, ay2⟩, hs', hG'⟩
  replace gr00 := frozenG hG' dr00 (by dsimp only <;> omega) gr00
  replace gr01 := frozenG hG' dr01 (by dsimp only <;> omega) gr01
  replace gr10 := frozenG hG' dr10 (by dsimp only <;> omega) gr10
  replace gr11 := frozenG hG' dr11 (by dsimp only <;> omega) gr11
  replace dr00 := cellG hG' dr00 (by dsimp only <;> omega)
  replace dr01 := cellG hG' dr01 (by dsimp only <;> omega)
  replace dr10 := cellG hG' dr10 (by dsimp only <;> omega)
  replace dr11 := cellG hG' dr11 (by dsimp only <;> omega)
  replace hs := hs'
  replace hG := grownBy_trans hG hG'
  clear hs' hG'
  go_wp2_with fail
  refine (drawPoint_any p (by omega) B bs v _ hs).mono ?_
  rintro e w' ⟨⟨bx, by_, rfl, bx1, bx2, by_1, by_2⟩, hs', hG'⟩
  replace gr00 := frozenG hG' dr00 (by dsimp only <;> omega) gr00
  replace gr01 := frozenG hG' dr01 (by dsimp only <;> omega) gr01
  replace gr10 := frozenG hG' dr10 (by dsimp only <;> omega) gr10
  replace gr11 := frozenG hG' dr11 (by dsimp only <;> omega) gr11
  replace dr00 := cellG hG' dr00 (by dsimp only <;> omega)
  replace dr01 := cellG hG' dr01 (by dsimp only <;> omega)
  replace dr10 := cellG hG' dr10 (by dsimp only <;> omega)
  replace dr11 := cellG hG' dr11 (by dsimp only <;> omega)
  replace hs := hs'
  replace hG := grownBy_trans hG hG'
  clear hs' hG'
  go_wp2_with fail
  generalize hW : (World.alloc (World.alloc w' (.cells #[.int .i64 ax, .int .i64 ay] 33)) (.cells #[.int .i64 bx, .int .i64 by_] 33)) = W3
  have db000 : W3.cell? ⟨w'.heap.size, 0, none⟩ = some (.int .i64 ax) := by subst hW; go_simp
  have db001 : W3.cell? ⟨w'.heap.size, 1, none⟩ = some (.int .i64 ay) := by subst hW; go_simp
  have db010 : W3.cell? ⟨w'.heap.size + 1, 0, none⟩ = some (.int .i64 bx) := by subst hW; go_simp
  have db011 : W3.cell? ⟨w'.heap.size + 1, 1, none⟩ = some (.int .i64 by_) := by subst hW; go_simp
  have hbn : Below w'.heap.size w' W3 := by subst hW; go_grown
  replace gr00 := keepF hbn dr00 gr00
  replace gr01 := keepF hbn dr01 gr01
  replace gr10 := keepF hbn dr10 gr10
  replace gr11 := keepF hbn dr11 gr11
  replace dr00 := keepC hbn dr00
  replace dr01 := keepC hbn dr01
  replace dr10 := keepC hbn dr10
  replace dr11 := keepC hbn dr11
  have hlt0 := hs.lt
  replace hs := hs.keep hbn
  replace hG := grownBy_trans hG (grown_below hbn)
  clear hW hbn
  generalize w'.heap.size = r_0 at *
  clear w'
  refine (drawColour_any B bs v _ hs).mono ?_
  rintro e w' ⟨⟨k, rfl⟩, hs', hG'⟩
  replace gr00 := frozenG hG' dr00 (by dsimp only <;> omega) gr00
  replace gr01 := frozenG hG' dr01 (by dsimp only <;> omega) gr01
  replace gr10 := frozenG hG' dr10 (by dsimp only <;> omega) gr10
  replace gr11 := frozenG hG' dr11 (by dsimp only <;> omega) gr11
  replace dr00 := cellG hG' dr00 (by dsimp only <;> omega)
  replace dr01 := cellG hG' dr01 (by dsimp only <;> omega)
  replace dr10 := cellG hG' dr10 (by dsimp only <;> omega)
  replace dr11 := cellG hG' dr11 (by dsimp only <;> omega)
  replace db000 := cellG hG' db000 (by dsimp only <;> omega)
  replace db001 := cellG hG' db001 (by dsimp only <;> omega)
  replace db010 := cellG hG' db010 (by dsimp only <;> omega)
  replace db011 := cellG hG' db011 (by dsimp only <;> omega)
  replace hs := hs'
  replace hG := grownBy_trans hG hG'
  clear hs' hG'
  go_wp2_with fail
  refine Reg.wp_region_steps (by kernel_rfl) 13 (by kernel_rfl) (fun wq => Hid (Src wq B bs v ∧ w.grownBy wq (some bs) ∧ wq.cell? ⟨w.heap.size, 0, none⟩ = some (.int .i64 0) ∧ wq.frozen? ⟨w.heap.size, 0, none⟩ = false ∧ wq.cell? ⟨w.heap.size, 1, none⟩ = some (.int .i64 0) ∧ wq.frozen? ⟨w.heap.size, 1, none⟩ = false ∧ wq.cell? ⟨w.heap.size + 1, 0, none⟩ = some (.int .i64 0) ∧ wq.frozen? ⟨w.heap.size + 1, 0, none⟩ = false ∧ wq.cell? ⟨w.heap.size + 1, 1, none⟩ = some (.int .i64 0) ∧ wq.frozen? ⟨w.heap.size + 1, 1, none⟩ = false ∧ wq.cell? ⟨r_0, 0, none⟩ = some (.int .i64 ax) ∧ wq.cell? ⟨r_0, 1, none⟩ = some (.int .i64 ay) ∧ wq.cell? ⟨r_0 + 1, 0, none⟩ = some (.int .i64 bx) ∧ wq.cell? ⟨r_0 + 1, 1, none⟩ = some (.int .i64 by_))) [(fun v => v = .pointer (some ⟨bs, 0, none⟩)), (fun v => v = .int .i64 p), IsI, (fun v => v = .int .i64 k), (fun v => v = .pointer (some ⟨bs, 0, none⟩)), (fun v => v = .int .i64 p), (fun v => v = .agg #[.int .i64 ax, .int .i64 ay]), IsP, (fun v => v = .pointer (some ⟨bs, 0, none⟩)), (fun v => v = .int .i64 p), (fun v => v = .agg #[.int .i64 bx, .int .i64 by_]), IsP, IsI] (Reg.inh_cons ⟨_, rfl⟩ (Reg.inh_cons ⟨_, rfl⟩ (Reg.inh_cons ⟨.int .i64 0, _, rfl⟩ (Reg.inh_cons ⟨_, rfl⟩ (Reg.inh_cons ⟨_, rfl⟩ (Reg.inh_cons ⟨_, rfl⟩ (Reg.inh_cons ⟨_, rfl⟩ (Reg.inh_cons ⟨.agg #[.int .i64 0, .int .i64 0], _, _, rfl⟩ (Reg.inh_cons ⟨_, rfl⟩ (Reg.inh_cons ⟨_, rfl⟩ (Reg.inh_cons ⟨_, rfl⟩ (Reg.inh_cons ⟨.agg #[.int .i64 0, .int .i64 0], _, _, rfl⟩ (Reg.inh_cons ⟨.int .i64 0, _, rfl⟩ (Reg.inh_nil)))))))))))))) ?_ ?_
  · exact hid ⟨hs.drew, grownBy_drew hG, keepC (Below.refl _ _).drew dr00, keepF (Below.refl _ _).drew dr00 gr00, keepC (Below.refl _ _).drew dr01, keepF (Below.refl _ _).drew dr01 gr01, keepC (Below.refl _ _).drew dr10, keepF (Below.refl _ _).drew dr10 gr10, keepC (Below.refl _ _).drew dr11, keepF (Below.refl _ _).drew dr11 gr11, keepC (Below.refl _ _).drew db000, keepC (Below.refl _ _).drew db001, keepC (Below.refl _ _).drew db010, keepC (Below.refl _ _).drew db011⟩
  clear hs hG dr00 gr00 dr01 gr01 dr10 gr10 dr11 gr11 db000 db001 db010 db011
  simp only [List.take_succ_cons, List.take_zero, List.drop_succ_cons, List.drop_zero]
  refine Reg.wpSq_val (fun wq hq => ?gs1x0) ?ks1x0
  case gs1x0 => (obtain ⟨hs, hG, dr00, gr00, dr01, gr01, dr10, gr10, dr11, gr11, db000, db001, db010, db011⟩ := hq.out; go_simp; first | done | (with_reducible rfl) | rfl)
  try simp only [Act.put, List.setIfInBounds_toArray, List.set_cons_zero, List.set_cons_succ]
  refine Reg.wpSq_val (fun wq hq => ?gs1x1) ?ks1x1
  case gs1x1 => (obtain ⟨hs, hG, dr00, gr00, dr01, gr01, dr10, gr10, dr11, gr11, db000, db001, db010, db011⟩ := hq.out; go_simp; first | done | (with_reducible rfl) | rfl)
  try simp only [Act.put, List.setIfInBounds_toArray, List.set_cons_zero, List.set_cons_succ]
  refine Reg.wpSq_step (fun wq hq => ?gs1x2) ?ks1x2
  case gs1x2 =>
    obtain ⟨hs, hG, dr00, gr00, dr01, gr01, dr10, gr10, dr11, gr11, db000, db001, db010, db011⟩ := hq.out
    refine Reg.sAt_call (f := 99) (args := #[.pointer (some ⟨bs, 0, none⟩), .int .i64 p]) (by go_simp) ?_
    refine (badField_any _ B bs v _ hs).mono ?_
    rintro e w' ⟨⟨q0, rfl⟩, hs', hG'⟩
    replace gr00 := frozenG hG' dr00 (by dsimp only <;> omega) gr00
    replace gr01 := frozenG hG' dr01 (by dsimp only <;> omega) gr01
    replace gr10 := frozenG hG' dr10 (by dsimp only <;> omega) gr10
    replace gr11 := frozenG hG' dr11 (by dsimp only <;> omega) gr11
    replace dr00 := cellG hG' dr00 (by dsimp only <;> omega)
    replace dr01 := cellG hG' dr01 (by dsimp only <;> omega)
    replace dr10 := cellG hG' dr10 (by dsimp only <;> omega)
    replace dr11 := cellG hG' dr11 (by dsimp only <;> omega)
    replace db000 := cellG hG' db000 (by dsimp only <;> omega)
    replace db001 := cellG hG' db001 (by dsimp only <;> omega)
    replace db010 := cellG hG' db010 (by dsimp only <;> omega)
    replace db011 := cellG hG' db011 (by dsimp only <;> omega)
    replace hs := hs'
    replace hG := grownBy_trans hG hG'
    clear hs' hG'
    exact ⟨_, rfl, ⟨_, rfl⟩, hid ⟨hs, hG, dr00, gr00, dr01, gr01, dr10, gr10, dr11, gr11, db000, db001, db010, db011⟩⟩
  rintro _ ⟨uf, rfl⟩
  try simp only [Act.put, List.setIfInBounds_toArray, List.set_cons_zero, List.set_cons_succ]
  refine Reg.wpSq_val (fun wq hq => ?gs1x3) ?ks1x3
  case gs1x3 => (obtain ⟨hs, hG, dr00, gr00, dr01, gr01, dr10, gr10, dr11, gr11, db000, db001, db010, db011⟩ := hq.out; go_simp; first | done | (with_reducible rfl) | rfl)
  try simp only [Act.put, List.setIfInBounds_toArray, List.set_cons_zero, List.set_cons_succ]
  refine Reg.wpSq_val (fun wq hq => ?gs1x4) ?ks1x4
  case gs1x4 => (obtain ⟨hs, hG, dr00, gr00, dr01, gr01, dr10, gr10, dr11, gr11, db000, db001, db010, db011⟩ := hq.out; go_simp; first | done | (with_reducible rfl) | rfl)
  try simp only [Act.put, List.setIfInBounds_toArray, List.set_cons_zero, List.set_cons_succ]
  refine Reg.wpSq_val (fun wq hq => ?gs1x5) ?ks1x5
  case gs1x5 => (obtain ⟨hs, hG, dr00, gr00, dr01, gr01, dr10, gr10, dr11, gr11, db000, db001, db010, db011⟩ := hq.out; go_simp; first | done | (with_reducible rfl) | rfl)
  try simp only [Act.put, List.setIfInBounds_toArray, List.set_cons_zero, List.set_cons_succ]
  refine Reg.wpSq_val (fun wq hq => ?gs1x6) ?ks1x6
  case gs1x6 => (obtain ⟨hs, hG, dr00, gr00, dr01, gr01, dr10, gr10, dr11, gr11, db000, db001, db010, db011⟩ := hq.out; go_simp; first | done | (with_reducible rfl) | rfl)
  try simp only [Act.put, List.setIfInBounds_toArray, List.set_cons_zero, List.set_cons_succ]
  refine Reg.wpSq_step (fun wq hq => ?gs1x7) ?ks1x7
  case gs1x7 =>
    obtain ⟨hs, hG, dr00, gr00, dr01, gr01, dr10, gr10, dr11, gr11, db000, db001, db010, db011⟩ := hq.out
    refine Reg.sAt_call (f := 110) (args := #[.pointer (some ⟨bs, 0, none⟩), .int .i64 p, .agg #[.int .i64 ax, .int .i64 ay]]) (by go_simp) ?_
    refine (badPoint_any _ _ _ B bs v _ hs).mono ?_
    rintro e w' ⟨⟨q0, q1, rfl⟩, hs', hG'⟩
    replace gr00 := frozenG hG' dr00 (by dsimp only <;> omega) gr00
    replace gr01 := frozenG hG' dr01 (by dsimp only <;> omega) gr01
    replace gr10 := frozenG hG' dr10 (by dsimp only <;> omega) gr10
    replace gr11 := frozenG hG' dr11 (by dsimp only <;> omega) gr11
    replace dr00 := cellG hG' dr00 (by dsimp only <;> omega)
    replace dr01 := cellG hG' dr01 (by dsimp only <;> omega)
    replace dr10 := cellG hG' dr10 (by dsimp only <;> omega)
    replace dr11 := cellG hG' dr11 (by dsimp only <;> omega)
    replace db000 := cellG hG' db000 (by dsimp only <;> omega)
    replace db001 := cellG hG' db001 (by dsimp only <;> omega)
    replace db010 := cellG hG' db010 (by dsimp only <;> omega)
    replace db011 := cellG hG' db011 (by dsimp only <;> omega)
    replace hs := hs'
    replace hG := grownBy_trans hG hG'
    clear hs' hG'
    exact ⟨_, rfl, ⟨_, _, rfl⟩, hid ⟨hs, hG, dr00, gr00, dr01, gr01, dr10, gr10, dr11, gr11, db000, db001, db010, db011⟩⟩
  rintro _ ⟨ux, uy, rfl⟩
  try simp only [Act.put, List.setIfInBounds_toArray, List.set_cons_zero, List.set_cons_succ]
  refine Reg.wpSq_val (fun wq hq => ?gs1x8) ?ks1x8
  case gs1x8 => (obtain ⟨hs, hG, dr00, gr00, dr01, gr01, dr10, gr10, dr11, gr11, db000, db001, db010, db011⟩ := hq.out; go_simp; first | done | (with_reducible rfl) | rfl)
  try simp only [Act.put, List.setIfInBounds_toArray, List.set_cons_zero, List.set_cons_succ]
  refine Reg.wpSq_val (fun wq hq => ?gs1x9) ?ks1x9
  case gs1x9 => (obtain ⟨hs, hG, dr00, gr00, dr01, gr01, dr10, gr10, dr11, gr11, db000, db001, db010, db011⟩ := hq.out; go_simp; first | done | (with_reducible rfl) | rfl)
  try simp only [Act.put, List.setIfInBounds_toArray, List.set_cons_zero, List.set_cons_succ]
  refine Reg.wpSq_val (fun wq hq => ?gs1x10) ?ks1x10
  case gs1x10 => (obtain ⟨hs, hG, dr00, gr00, dr01, gr01, dr10, gr10, dr11, gr11, db000, db001, db010, db011⟩ := hq.out; go_simp; first | done | (with_reducible rfl) | rfl)
  try simp only [Act.put, List.setIfInBounds_toArray, List.set_cons_zero, List.set_cons_succ]
  refine Reg.wpSq_step (fun wq hq => ?gs1x11) ?ks1x11
  case gs1x11 =>
    obtain ⟨hs, hG, dr00, gr00, dr01, gr01, dr10, gr10, dr11, gr11, db000, db001, db010, db011⟩ := hq.out
    refine Reg.sAt_call (f := 110) (args := #[.pointer (some ⟨bs, 0, none⟩), .int .i64 p, .agg #[.int .i64 bx, .int .i64 by_]]) (by go_simp) ?_
    refine (badPoint_any _ _ _ B bs v _ hs).mono ?_
    rintro e w' ⟨⟨q0, q1, rfl⟩, hs', hG'⟩
    replace gr00 := frozenG hG' dr00 (by dsimp only <;> omega) gr00
    replace gr01 := frozenG hG' dr01 (by dsimp only <;> omega) gr01
    replace gr10 := frozenG hG' dr10 (by dsimp only <;> omega) gr10
    replace gr11 := frozenG hG' dr11 (by dsimp only <;> omega) gr11
    replace dr00 := cellG hG' dr00 (by dsimp only <;> omega)
    replace dr01 := cellG hG' dr01 (by dsimp only <;> omega)
    replace dr10 := cellG hG' dr10 (by dsimp only <;> omega)
    replace dr11 := cellG hG' dr11 (by dsimp only <;> omega)
    replace db000 := cellG hG' db000 (by dsimp only <;> omega)
    replace db001 := cellG hG' db001 (by dsimp only <;> omega)
    replace db010 := cellG hG' db010 (by dsimp only <;> omega)
    replace db011 := cellG hG' db011 (by dsimp only <;> omega)
    replace hs := hs'
    replace hG := grownBy_trans hG hG'
    clear hs' hG'
    exact ⟨_, rfl, ⟨_, _, rfl⟩, hid ⟨hs, hG, dr00, gr00, dr01, gr01, dr10, gr10, dr11, gr11, db000, db001, db010, db011⟩⟩
  rintro _ ⟨xx, xy, rfl⟩
  try simp only [Act.put, List.setIfInBounds_toArray, List.set_cons_zero, List.set_cons_succ]
  refine Reg.wpSq_step (fun wq hq => ?gs1x12) ?ks1x12
  case gs1x12 => exact Reg.sAt_val (v := .int .i64 uf) (by go_simp; first | done | rfl) ⟨_, rfl⟩ hq
  rintro _ ⟨uf2, rfl⟩
  try simp only [Act.put, List.setIfInBounds_toArray, List.set_cons_zero, List.set_cons_succ]
  intro w2 hq
  obtain ⟨hs, hG, dr00, gr00, dr01, gr01, dr10, gr10, dr11, gr11, db000, db001, db010, db011⟩ := hq.out
  clear hq
  change wpList _ _ _ _ _ _
  go_wp2_with fail
  try simp only [Exit.inBlock, Exit.then]
  refine bodyPost_ret (by simp [results, Try.results101, go_sem, dr00, gr00, dr01, gr01, dr10, gr10, dr11, gr11]; try rfl) rfl ?_
  exact ⟨⟨_, _, _, _, _, _, rfl⟩, by have hBf := below_grown (Below.refl w.heap.size w) hG (by omega) (by omega); first | exact hBf | (rw [hbs]; exact hBf) | go_grown⟩
theorem drawQuadrance_any (v : Value) (w : World) (hv : Bytes w w.heap.size v) :
    Calls Try.prog 31 #[v] w fun e w' => (∃ o0 o1 o2x o2y o3x o3y : Int, e = .returned (.tuple #[.int .i64 o0, .int .i64 o1, .agg #[.int .i64 o2x, .int .i64 o2y], .agg #[.int .i64 o3x, .int .i64 o3y]])) ∧ Below w.heap.size w w' := by
  obtain ⟨B, hBw⟩ : ∃ B, B = w.heap.size := ⟨_, rfl⟩
  have hv0 : Bytes w B v := by rw [hBw]; exact hv
  clear hv
  go_enter Try.func31, Try.ntmps31
  go_wp2_with fail
  generalize hW : (World.alloc (World.alloc w (.cells #[.int .i64 0, .int .i64 0] 33)) (.cells #[.int .i64 0, .int .i64 0] 33)) = W
  have dr00 : W.cell? ⟨w.heap.size, 0, none⟩ = some (.int .i64 0) := by subst hW; go_simp
  have gr00 : W.frozen? ⟨w.heap.size, 0, none⟩ = false := by subst hW; go_simp
  have dr01 : W.cell? ⟨w.heap.size, 1, none⟩ = some (.int .i64 0) := by subst hW; go_simp
  have gr01 : W.frozen? ⟨w.heap.size, 1, none⟩ = false := by subst hW; go_simp
  have dr10 : W.cell? ⟨w.heap.size + 1, 0, none⟩ = some (.int .i64 0) := by subst hW; go_simp
  have gr10 : W.frozen? ⟨w.heap.size + 1, 0, none⟩ = false := by subst hW; go_simp
  have dr11 : W.cell? ⟨w.heap.size + 1, 1, none⟩ = some (.int .i64 0) := by subst hW; go_simp
  have gr11 : W.frozen? ⟨w.heap.size + 1, 1, none⟩ = false := by subst hW; go_simp
  have hv1 : Bytes W B v := by subst hW; exact ((hv0).alloc _).alloc _
  have hB : Below w.heap.size w W := by subst hW; go_grown
  have hbs : w.heap.size + 2 ≤ W.heap.size := by subst hW; simp
  clear hW hv0
  refine (two_any v _ (hv1.raise (by omega))).mono ?_
  rintro e w1 ⟨⟨p, k, ax, ay, bx, by_, rfl⟩, hbn⟩
  replace gr00 := keepF hbn dr00 gr00
  replace gr01 := keepF hbn dr01 gr01
  replace gr10 := keepF hbn dr10 gr10
  replace gr11 := keepF hbn dr11 gr11
  replace dr00 := keepC hbn dr00
  replace dr01 := keepC hbn dr01
  replace dr10 := keepC hbn dr10
  replace dr11 := keepC hbn dr11
  have hsz0 := hbn.size
  replace hB := below_of hB hbn hB.size
  clear hbn hv1
  go_wp2_with fail
  try simp only [Exit.inBlock, Exit.then]
  refine bodyPost_ret (by simp [results, Try.results31, go_sem, dr00, gr00, dr01, gr01, dr10, gr10, dr11, gr11]; try rfl) rfl ?_
  exact ⟨⟨_, _, _, _, _, _, rfl⟩, by first | exact hB | (have := hB.size; go_grown)⟩
theorem drawNullLines_any (v : Value) (w : World) (hv : Bytes w w.heap.size v) :
    Calls Try.prog 54 #[v] w fun e w' => (∃ o0 o1 o2x o2y : Int, e = .returned (.tuple #[.int .i64 o0, .int .i64 o1, .agg #[.int .i64 o2x, .int .i64 o2y]])) ∧ Below w.heap.size w w' := by
  obtain ⟨B, hBw⟩ : ∃ B, B = w.heap.size := ⟨_, rfl⟩
  have hv0 : Bytes w B v := by rw [hBw]; exact hv
  clear hv
  go_enter Try.func54, Try.ntmps54
  go_wp2_with fail
  generalize hW : (World.alloc w (.cells #[.int .i64 0, .int .i64 0] 33)) = W
  have dr00 : W.cell? ⟨w.heap.size, 0, none⟩ = some (.int .i64 0) := by subst hW; go_simp
  have gr00 : W.frozen? ⟨w.heap.size, 0, none⟩ = false := by subst hW; go_simp
  have dr01 : W.cell? ⟨w.heap.size, 1, none⟩ = some (.int .i64 0) := by subst hW; go_simp
  have gr01 : W.frozen? ⟨w.heap.size, 1, none⟩ = false := by subst hW; go_simp
  have hv1 : Bytes W B v := by subst hW; exact (hv0).alloc _
  have hB : Below w.heap.size w W := by subst hW; go_grown
  have hbs : w.heap.size + 1 ≤ W.heap.size := by subst hW; simp
  clear hW hv0
  refine (two_any v _ (hv1.raise (by omega))).mono ?_
  rintro e w1 ⟨⟨p, k, ax, ay, bx, by_, rfl⟩, hbn⟩
  replace gr00 := keepF hbn dr00 gr00
  replace gr01 := keepF hbn dr01 gr01
  replace dr00 := keepC hbn dr00
  replace dr01 := keepC hbn dr01
  have hsz0 := hbn.size
  replace hB := below_of hB hbn hB.size
  clear hbn hv1
  go_wp2_with fail
  generalize hW : (World.alloc (World.alloc w1 (.cells #[.int .i64 ax, .int .i64 ay] 33)) (.cells #[.int .i64 bx, .int .i64 by_] 33)) = W3
  have db000 : W3.cell? ⟨w1.heap.size, 0, none⟩ = some (.int .i64 ax) := by subst hW; go_simp
  have db001 : W3.cell? ⟨w1.heap.size, 1, none⟩ = some (.int .i64 ay) := by subst hW; go_simp
  have db010 : W3.cell? ⟨w1.heap.size + 1, 0, none⟩ = some (.int .i64 bx) := by subst hW; go_simp
  have db011 : W3.cell? ⟨w1.heap.size + 1, 1, none⟩ = some (.int .i64 by_) := by subst hW; go_simp
  have hbn : Below w1.heap.size w1 W3 := by subst hW; go_grown
  replace gr00 := keepF hbn dr00 gr00
  replace gr01 := keepF hbn dr01 gr01
  replace dr00 := keepC hbn dr00
  replace dr01 := keepC hbn dr01
  have hle0 := hB.size
  replace hB := below_of hB hbn hB.size
  clear hW hbn
  generalize w1.heap.size = r_0 at *
  clear w1
  have h_r0 : Res2 _ (w.heap.size) := ⟨World.block_lt_of_cell? _ _ dr00, ⟨_, dr00⟩, ⟨_, dr01⟩, fun j hj => by match j, hj with | 0, _ => exact gr00 | 1, _ => exact gr01⟩
  clear dr00 gr00 dr01 gr01
  refine Reg.wp_region_steps7 (by kernel_rfl) 6 (by kernel_rfl) (fun wq => Hid (Below w.heap.size w wq ∧ wq.cell? ⟨r_0, 0, none⟩ = some (.int .i64 ax) ∧ wq.cell? ⟨r_0, 1, none⟩ = some (.int .i64 ay) ∧ wq.cell? ⟨r_0 + 1, 0, none⟩ = some (.int .i64 bx) ∧ wq.cell? ⟨r_0 + 1, 1, none⟩ = some (.int .i64 by_) ∧ Res2 wq (w.heap.size))) [(fun v => v = .int .i64 p), (fun v => v = .int .i64 k), (fun v => v = .agg #[.int .i64 ax, .int .i64 ay]), (fun v => v = .int .i64 p), (fun v => v = .int .i64 k), Reg.anyV] (Reg.inh_cons ⟨_, rfl⟩ (Reg.inh_cons ⟨_, rfl⟩ (Reg.inh_cons ⟨_, rfl⟩ (Reg.inh_cons ⟨_, rfl⟩ (Reg.inh_cons ⟨_, rfl⟩ (Reg.inh_cons ⟨undef, trivial⟩ (Reg.inh_nil))))))) ?_ ?_
  · exact hid ⟨hB.drew, keepC (Below.refl _ _).drew db000, keepC (Below.refl _ _).drew db001, keepC (Below.refl _ _).drew db010, keepC (Below.refl _ _).drew db011, h_r0.keep (Below.refl _ _).drew⟩
  clear hB db000 db001 db010 db011 h_r0
  simp only [List.take_succ_cons, List.take_zero, List.drop_succ_cons, List.drop_zero]
  refine Reg.wpS7_val (fun wq hq => ?gs2x0) ?ks2x0
  case gs2x0 => (obtain ⟨hB, db000, db001, db010, db011, h_r0⟩ := hq.out; go_simp; first | done | (with_reducible rfl) | rfl)
  try simp only [Act.put, List.setIfInBounds_toArray, List.set_cons_zero, List.set_cons_succ]
  refine Reg.wpS7_val (fun wq hq => ?gs2x1) ?ks2x1
  case gs2x1 => (obtain ⟨hB, db000, db001, db010, db011, h_r0⟩ := hq.out; go_simp; first | done | (with_reducible rfl) | rfl)
  try simp only [Act.put, List.setIfInBounds_toArray, List.set_cons_zero, List.set_cons_succ]
  refine Reg.wpS7_val (fun wq hq => ?gs2x2) ?ks2x2
  case gs2x2 => (obtain ⟨hB, db000, db001, db010, db011, h_r0⟩ := hq.out; go_simp; first | done | (with_reducible rfl) | rfl)
  try simp only [Act.put, List.setIfInBounds_toArray, List.set_cons_zero, List.set_cons_succ]
  refine Reg.wpS7_val (fun wq hq => ?gs2x3) ?ks2x3
  case gs2x3 => (obtain ⟨hB, db000, db001, db010, db011, h_r0⟩ := hq.out; go_simp; first | done | (with_reducible rfl) | rfl)
  try simp only [Act.put, List.setIfInBounds_toArray, List.set_cons_zero, List.set_cons_succ]
  refine Reg.wpS7_val (fun wq hq => ?gs2x4) ?ks2x4
  case gs2x4 => (obtain ⟨hB, db000, db001, db010, db011, h_r0⟩ := hq.out; go_simp; first | done | (with_reducible rfl) | rfl)
  try simp only [Act.put, List.setIfInBounds_toArray, List.set_cons_zero, List.set_cons_succ]
  refine Reg.wpS7_skip rfl (fun wq hq => ?gs2x5) ?ks2x5
  case gs2x5 =>
    obtain ⟨hB, db000, db001, db010, db011, h_r0⟩ := hq.out
    have hres := h_r0
    obtain ⟨_, ⟨x0, cc0⟩, ⟨x1, cc1⟩, hz⟩ := h_r0
    have ff0 := hz 0 (by omega)
    have ff1 := hz 1 (by omega)
    exact ⟨put2 wq (w.heap.size) (ax) (ay), by unfold put2; go_simp, hid ⟨below_put2 hB (by omega) _ _, cellP (put2_heap _ _ _ _) db000 (by dsimp only <;> omega), cellP (put2_heap _ _ _ _) db001 (by dsimp only <;> omega), cellP (put2_heap _ _ _ _) db010 (by dsimp only <;> omega), cellP (put2_heap _ _ _ _) db011 (by dsimp only <;> omega), hres.put _ _⟩⟩
  try simp only [Act.put, List.setIfInBounds_toArray, List.set_cons_zero, List.set_cons_succ]
  intro w2 hq
  obtain ⟨hB, db000, db001, db010, db011, h_r0⟩ := hq.out
  clear hq
  change wpList _ _ _ _ _ _
  obtain ⟨_, ⟨x00, cr00⟩, ⟨x01, cr01⟩, _⟩ := h_r0
  go_wp2_with fail
  try simp only [Exit.inBlock, Exit.then]
  refine bodyPost_ret (by simp [results, Try.results54, go_sem, cr00, cr01]; try rfl) rfl ?_
  exact ⟨⟨_, _, _, _, rfl⟩, by first | exact hB | go_grown⟩
theorem drawPointsAt_any (v : Value) (w : World) (hv : Bytes w w.heap.size v) :
    Calls Try.prog 36 #[v] w fun e w' => (∃ o0 o1 o2x o2y o3 : Int, e = .returned (.tuple #[.int .i64 o0, .int .i64 o1, .agg #[.int .i64 o2x, .int .i64 o2y], .int .i64 o3])) ∧ Below w.heap.size w w' := by
  obtain ⟨B, hBw⟩ : ∃ B, B = w.heap.size := ⟨_, rfl⟩
  have hv0 : Bytes w B v := by rw [hBw]; exact hv
  clear hv
  go_enter Try.func36, Try.ntmps36
  go_wp2_with fail
  generalize hW : (World.alloc w (.cells #[.int .i64 0, .int .i64 0] 33)) = W
  have dr00 : W.cell? ⟨w.heap.size, 0, none⟩ = some (.int .i64 0) := by subst hW; go_simp
  have gr00 : W.frozen? ⟨w.heap.size, 0, none⟩ = false := by subst hW; go_simp
  have dr01 : W.cell? ⟨w.heap.size, 1, none⟩ = some (.int .i64 0) := by subst hW; go_simp
  have gr01 : W.frozen? ⟨w.heap.size, 1, none⟩ = false := by subst hW; go_simp
  have hv1 : Bytes W B v := by subst hW; exact (hv0).alloc _
  have hB : Below w.heap.size w W := by subst hW; go_grown
  have hbs : w.heap.size + 1 ≤ W.heap.size := by subst hW; simp
  clear hW hv0
  refine (from_any v B W hv1 (by omega)).mono ?_
  rintro e w1 ⟨rfl, hs, hbn⟩
  replace gr00 := keepF hbn dr00 gr00
  replace gr01 := keepF hbn dr01 gr01
  replace dr00 := keepC hbn dr00
  replace dr01 := keepC hbn dr01
  have hG : w.grownBy w1 (some W.heap.size) := grown_below (below_of hB hbn hB.size)
  clear hB hbn hv1
  generalize W.heap.size = bs at *
  clear W
  have hlow := hs.low
  go_wp2_with fail
  go_wp2_with fail
  refine (drawField_any B bs v _ hs).mono ?_
  rintro e w' ⟨⟨p, rfl, hpm⟩, hs', hG'⟩
  replace gr00 := frozenG hG' dr00 (by dsimp only <;> omega) gr00
  replace gr01 := frozenG hG' dr01 (by dsimp only <;> omega) gr01
  replace dr00 := cellG hG' dr00 (by dsimp only <;> omega)
  replace dr01 := cellG hG' dr01 (by dsimp only <;> omega)
  replace hs := hs'
  replace hG := grownBy_trans hG hG'
  clear hs' hG'
  have hf := field_of hpm
  have hp := Pl.field_bd hf
  obtain ⟨hp1, hp2⟩ := hp
  clear hpm
  go_wp2_with fail
  refine (drawPoint_any p (by omega) B bs v _ hs).mono ?_
  rintro e w' ⟨⟨ax, ay, rfl, ax1, ax2, ay1, ay2⟩, hs', hG'⟩
  replace gr00 := frozenG hG' dr00 (by dsimp only <;> omega) gr00
  replace gr01 := frozenG hG' dr01 (by dsimp only <;> omega) gr01
  replace dr00 := cellG hG' dr00 (by dsimp only <;> omega)
  replace dr01 := cellG hG' dr01 (by dsimp only <;> omega)
  replace hs := hs'
  replace hG := grownBy_trans hG hG'
  clear hs' hG'
  go_wp2_with fail
  refine (drawColour_any B bs v _ hs).mono ?_
  rintro e w' ⟨⟨k, rfl⟩, hs', hG'⟩
  replace gr00 := frozenG hG' dr00 (by dsimp only <;> omega) gr00
  replace gr01 := frozenG hG' dr01 (by dsimp only <;> omega) gr01
  replace dr00 := cellG hG' dr00 (by dsimp only <;> omega)
  replace dr01 := cellG hG' dr01 (by dsimp only <;> omega)
  replace hs := hs'
  replace hG := grownBy_trans hG hG'
  clear hs' hG'
  go_wp2_with fail
  generalize hW : (World.alloc w' (.cells #[.int .i64 ax, .int .i64 ay] 33)) = W3
  have db000 : W3.cell? ⟨w'.heap.size, 0, none⟩ = some (.int .i64 ax) := by subst hW; go_simp
  have db001 : W3.cell? ⟨w'.heap.size, 1, none⟩ = some (.int .i64 ay) := by subst hW; go_simp
  have hbn : Below w'.heap.size w' W3 := by subst hW; go_grown
  replace gr00 := keepF hbn dr00 gr00
  replace gr01 := keepF hbn dr01 gr01
  replace dr00 := keepC hbn dr00
  replace dr01 := keepC hbn dr01
  have hlt0 := hs.lt
  replace hs := hs.keep hbn
  replace hG := grownBy_trans hG (grown_below hbn)
  clear hW hbn
  generalize w'.heap.size = r_0 at *
  clear w'
  refine (drawNumber_any p B bs v _ hs).mono ?_
  rintro e w' ⟨⟨q, rfl⟩, hs', hG'⟩
  replace gr00 := frozenG hG' dr00 (by dsimp only <;> omega) gr00
  replace gr01 := frozenG hG' dr01 (by dsimp only <;> omega) gr01
  replace dr00 := cellG hG' dr00 (by dsimp only <;> omega)
  replace dr01 := cellG hG' dr01 (by dsimp only <;> omega)
  replace db000 := cellG hG' db000 (by dsimp only <;> omega)
  replace db001 := cellG hG' db001 (by dsimp only <;> omega)
  replace hs := hs'
  replace hG := grownBy_trans hG hG'
  clear hs' hG'
  go_wp2_with fail
  have h_r0 : Res2 _ (w.heap.size) := ⟨World.block_lt_of_cell? _ _ dr00, ⟨_, dr00⟩, ⟨_, dr01⟩, fun j hj => by match j, hj with | 0, _ => exact gr00 | 1, _ => exact gr01⟩
  clear dr00 gr00 dr01 gr01
  refine Reg.wp_region_steps7 (by kernel_rfl) 13 (by kernel_rfl) (fun wq => Hid (Src wq B bs v ∧ w.grownBy wq (some bs) ∧ wq.cell? ⟨r_0, 0, none⟩ = some (.int .i64 ax) ∧ wq.cell? ⟨r_0, 1, none⟩ = some (.int .i64 ay) ∧ Res2 wq (w.heap.size))) [(fun v => v = .pointer (some ⟨bs, 0, none⟩)), (fun v => v = .int .i64 p), IsI, (fun v => v = .int .i64 k), (fun v => v = .pointer (some ⟨bs, 0, none⟩)), (fun v => v = .int .i64 p), (fun v => v = .agg #[.int .i64 ax, .int .i64 ay]), IsP, (fun v => v = .int .i64 q), IsI, (fun v => v = .int .i64 k), Reg.anyV, (fun v => v = .int .i64 q)] (Reg.inh_cons ⟨_, rfl⟩ (Reg.inh_cons ⟨_, rfl⟩ (Reg.inh_cons ⟨.int .i64 0, _, rfl⟩ (Reg.inh_cons ⟨_, rfl⟩ (Reg.inh_cons ⟨_, rfl⟩ (Reg.inh_cons ⟨_, rfl⟩ (Reg.inh_cons ⟨_, rfl⟩ (Reg.inh_cons ⟨.agg #[.int .i64 0, .int .i64 0], _, _, rfl⟩ (Reg.inh_cons ⟨_, rfl⟩ (Reg.inh_cons ⟨.int .i64 0, _, rfl⟩ (Reg.inh_cons ⟨_, rfl⟩ (Reg.inh_cons ⟨undef, trivial⟩ (Reg.inh_cons ⟨_, rfl⟩ (Reg.inh_nil)))))))))))))) ?_ ?_
  · exact hid ⟨hs.drew, grownBy_drew hG, keepC (Below.refl _ _).drew db000, keepC (Below.refl _ _).drew db001, h_r0.keep (Below.refl _ _).drew⟩
  clear hs hG db000 db001 h_r0
  simp only [List.take_succ_cons, List.take_zero, List.drop_succ_cons, List.drop_zero]
  refine Reg.wpS7_val (fun wq hq => ?gs3x0) ?ks3x0
  case gs3x0 => (obtain ⟨hs, hG, db000, db001, h_r0⟩ := hq.out; go_simp; first | done | (with_reducible rfl) | rfl)
  try simp only [Act.put, List.setIfInBounds_toArray, List.set_cons_zero, List.set_cons_succ]
  refine Reg.wpS7_val (fun wq hq => ?gs3x1) ?ks3x1
  case gs3x1 => (obtain ⟨hs, hG, db000, db001, h_r0⟩ := hq.out; go_simp; first | done | (with_reducible rfl) | rfl)
  try simp only [Act.put, List.setIfInBounds_toArray, List.set_cons_zero, List.set_cons_succ]
  refine Reg.wpS7_step (fun wq hq => ?gs3x2) ?ks3x2
  case gs3x2 =>
    obtain ⟨hs, hG, db000, db001, h_r0⟩ := hq.out
    refine Reg.sAt7_call (f := 99) (args := #[.pointer (some ⟨bs, 0, none⟩), .int .i64 p]) (by go_simp) ?_
    refine (badField_any _ B bs v _ hs).mono ?_
    rintro e w' ⟨⟨q0, rfl⟩, hs', hG'⟩
    replace h_r0 := h_r0.grown hG' (by omega)
    replace db000 := cellG hG' db000 (by dsimp only <;> omega)
    replace db001 := cellG hG' db001 (by dsimp only <;> omega)
    replace hs := hs'
    replace hG := grownBy_trans hG hG'
    clear hs' hG'
    exact ⟨_, rfl, ⟨_, rfl⟩, hid ⟨hs, hG, db000, db001, h_r0⟩⟩
  rintro _ ⟨uf, rfl⟩
  try simp only [Act.put, List.setIfInBounds_toArray, List.set_cons_zero, List.set_cons_succ]
  refine Reg.wpS7_val (fun wq hq => ?gs3x3) ?ks3x3
  case gs3x3 => (obtain ⟨hs, hG, db000, db001, h_r0⟩ := hq.out; go_simp; first | done | (with_reducible rfl) | rfl)
  try simp only [Act.put, List.setIfInBounds_toArray, List.set_cons_zero, List.set_cons_succ]
  refine Reg.wpS7_val (fun wq hq => ?gs3x4) ?ks3x4
  case gs3x4 => (obtain ⟨hs, hG, db000, db001, h_r0⟩ := hq.out; go_simp; first | done | (with_reducible rfl) | rfl)
  try simp only [Act.put, List.setIfInBounds_toArray, List.set_cons_zero, List.set_cons_succ]
  refine Reg.wpS7_val (fun wq hq => ?gs3x5) ?ks3x5
  case gs3x5 => (obtain ⟨hs, hG, db000, db001, h_r0⟩ := hq.out; go_simp; first | done | (with_reducible rfl) | rfl)
  try simp only [Act.put, List.setIfInBounds_toArray, List.set_cons_zero, List.set_cons_succ]
  refine Reg.wpS7_val (fun wq hq => ?gs3x6) ?ks3x6
  case gs3x6 => (obtain ⟨hs, hG, db000, db001, h_r0⟩ := hq.out; go_simp; first | done | (with_reducible rfl) | rfl)
  try simp only [Act.put, List.setIfInBounds_toArray, List.set_cons_zero, List.set_cons_succ]
  refine Reg.wpS7_step (fun wq hq => ?gs3x7) ?ks3x7
  case gs3x7 =>
    obtain ⟨hs, hG, db000, db001, h_r0⟩ := hq.out
    refine Reg.sAt7_call (f := 110) (args := #[.pointer (some ⟨bs, 0, none⟩), .int .i64 p, .agg #[.int .i64 ax, .int .i64 ay]]) (by go_simp) ?_
    refine (badPoint_any _ _ _ B bs v _ hs).mono ?_
    rintro e w' ⟨⟨q0, q1, rfl⟩, hs', hG'⟩
    replace h_r0 := h_r0.grown hG' (by omega)
    replace db000 := cellG hG' db000 (by dsimp only <;> omega)
    replace db001 := cellG hG' db001 (by dsimp only <;> omega)
    replace hs := hs'
    replace hG := grownBy_trans hG hG'
    clear hs' hG'
    exact ⟨_, rfl, ⟨_, _, rfl⟩, hid ⟨hs, hG, db000, db001, h_r0⟩⟩
  rintro _ ⟨ux, uy, rfl⟩
  try simp only [Act.put, List.setIfInBounds_toArray, List.set_cons_zero, List.set_cons_succ]
  refine Reg.wpS7_val (fun wq hq => ?gs3x8) ?ks3x8
  case gs3x8 => (obtain ⟨hs, hG, db000, db001, h_r0⟩ := hq.out; go_simp; first | done | (with_reducible rfl) | rfl)
  try simp only [Act.put, List.setIfInBounds_toArray, List.set_cons_zero, List.set_cons_succ]
  refine Reg.wpS7_step (fun wq hq => ?gs3x9) ?ks3x9
  case gs3x9 => exact Reg.sAt7_val (v := .int .i64 uf) (by go_simp; first | done | rfl) ⟨_, rfl⟩ hq
  rintro _ ⟨uf2, rfl⟩
  try simp only [Act.put, List.setIfInBounds_toArray, List.set_cons_zero, List.set_cons_succ]
  refine Reg.wpS7_val (fun wq hq => ?gs3x10) ?ks3x10
  case gs3x10 => (obtain ⟨hs, hG, db000, db001, h_r0⟩ := hq.out; go_simp; first | done | (with_reducible rfl) | rfl)
  try simp only [Act.put, List.setIfInBounds_toArray, List.set_cons_zero, List.set_cons_succ]
  refine Reg.wpS7_skip rfl (fun wq hq => ?gs3x11) ?ks3x11
  case gs3x11 =>
    obtain ⟨hs, hG, db000, db001, h_r0⟩ := hq.out
    have hres := h_r0
    obtain ⟨_, ⟨x0, cc0⟩, ⟨x1, cc1⟩, hz⟩ := h_r0
    have ff0 := hz 0 (by omega)
    have ff1 := hz 1 (by omega)
    exact ⟨put2 wq (w.heap.size) (ux) (uy), by unfold put2; go_simp, hid ⟨hs.put (put2_heap _ _ _ _) (put2_size _ _ _ _) (by omega) (by omega), grown_put2 hG (by omega) _ _, cellP (put2_heap _ _ _ _) db000 (by dsimp only <;> omega), cellP (put2_heap _ _ _ _) db001 (by dsimp only <;> omega), hres.put _ _⟩⟩
  try simp only [Act.put, List.setIfInBounds_toArray, List.set_cons_zero, List.set_cons_succ]
  refine Reg.wpS7_val (fun wq hq => ?gs3x12) ?ks3x12
  case gs3x12 => (obtain ⟨hs, hG, db000, db001, h_r0⟩ := hq.out; go_simp; first | done | (with_reducible rfl) | rfl)
  try simp only [Act.put, List.setIfInBounds_toArray, List.set_cons_zero, List.set_cons_succ]
  intro w2 hq
  obtain ⟨hs, hG, db000, db001, h_r0⟩ := hq.out
  clear hq
  change wpList _ _ _ _ _ _
  obtain ⟨_, ⟨x00, cr00⟩, ⟨x01, cr01⟩, _⟩ := h_r0
  go_wp2_with fail
  try simp only [Exit.inBlock, Exit.then]
  refine bodyPost_ret (by simp [results, Try.results36, go_sem, cr00, cr01]; try rfl) rfl ?_
  exact ⟨⟨_, _, _, _, _, rfl⟩, by have hBf := below_grown (Below.refl w.heap.size w) hG (by omega) (by omega); first | exact hBf | (rw [hbs]; exact hBf) | go_grown⟩
theorem drawCountAt_any (v : Value) (w : World) (hv : Bytes w w.heap.size v) :
    Calls Try.prog 40 #[v] w fun e w' => (∃ o0 o1 o2 : Int, e = .returned (.tuple #[.int .i64 o0, .int .i64 o1, .int .i64 o2])) ∧ Below w.heap.size w w' := by
  obtain ⟨B, hBw⟩ : ∃ B, B = w.heap.size := ⟨_, rfl⟩
  have hv0 : Bytes w B v := by rw [hBw]; exact hv
  clear hv
  go_enter Try.func40, Try.ntmps40
  go_wp2_with fail
  have hB := Below.refl w.heap.size w
  refine (drawPointsAt_any v _ (hv0.raise (by omega))).mono ?_
  rintro e w1 ⟨⟨p, k, ax, ay, q, rfl⟩, hbn⟩
  have hsz0 := hbn.size
  replace hB := below_of hB hbn hB.size
  clear hbn hv0
  go_wp2_with fail
  try simp only [Exit.inBlock, Exit.then]
  first | go_ret | go_ret2 | go_returns
  exact ⟨⟨_, _, _, rfl⟩, by first | exact hB | (have := hB.size; go_grown)⟩
theorem drawArchimedesOf_any (v : Value) (w : World) (hv : Bytes w w.heap.size v) :
    Calls Try.prog 43 #[v] w fun e w' => (∃ o0 o1 o2 o3 : Int, e = .returned (.tuple #[.int .i64 o0, .int .i64 o1, .int .i64 o2, .int .i64 o3])) ∧ Below w.heap.size w w' := by
  obtain ⟨B, hBw⟩ : ∃ B, B = w.heap.size := ⟨_, rfl⟩
  have hv0 : Bytes w B v := by rw [hBw]; exact hv
  clear hv
  go_enter Try.func43, Try.ntmps43
  go_wp2_with fail
  have hB := Below.refl w.heap.size w
  refine (from_any v B w hv0 (by omega)).mono ?_
  rintro e w1 ⟨rfl, hs, hbn⟩
  have hG : w.grownBy w1 (some w.heap.size) := grown_below (below_of hB hbn hB.size)
  clear hB hbn hv0
  generalize hbs : w.heap.size = bs at *
  have hlow := hs.low
  go_wp2_with fail
  go_wp2_with fail
  refine (drawField_any B bs v _ hs).mono ?_
  rintro e w' ⟨⟨p, rfl, hpm⟩, hs', hG'⟩
  replace hs := hs'
  replace hG := grownBy_trans hG hG'
  clear hs' hG'
  have hf := field_of hpm
  have hp := Pl.field_bd hf
  obtain ⟨hp1, hp2⟩ := hp
  clear hpm
  go_wp2_with fail
  refine (badField_any p B bs v _ hs).mono ?_
  rintro e w' ⟨⟨uf, rfl⟩, hs', hG'⟩
  replace hs := hs'
  replace hG := grownBy_trans hG hG'
  clear hs' hG'
  go_wp2_with fail
  refine (drawNumber_any p B bs v _ hs).mono ?_
  rintro e w' ⟨⟨x, rfl⟩, hs', hG'⟩
  replace hs := hs'
  replace hG := grownBy_trans hG hG'
  clear hs' hG'
  go_wp2_with fail
  refine (drawNumber_any p B bs v _ hs).mono ?_
  rintro e w' ⟨⟨y, rfl⟩, hs', hG'⟩
  replace hs := hs'
  replace hG := grownBy_trans hG hG'
  clear hs' hG'
  go_wp2_with fail
  refine (drawNumber_any p B bs v _ hs).mono ?_
  rintro e w' ⟨⟨z, rfl⟩, hs', hG'⟩
  replace hs := hs'
  replace hG := grownBy_trans hG hG'
  clear hs' hG'
  go_wp2_with fail
  try simp only [Exit.inBlock, Exit.then]
  first | go_ret | go_ret2 | go_returns
  exact ⟨⟨_, _, _, _, rfl⟩, by have hBf := below_grown (Below.refl bs w) hG (by omega) (by omega); first | exact hBf | (rw [hbs]; exact hBf) | go_grown⟩
end Go.Proofs.Ytbjcbbnfgfmllaa
