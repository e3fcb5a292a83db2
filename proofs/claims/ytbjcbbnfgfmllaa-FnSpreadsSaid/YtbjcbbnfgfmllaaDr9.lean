/- Contracts: draws of layer 3. -/
import Derived.Test.YtbjcbbnfgfmllaaDr6
import Derived.Test.YtbjcbbnfgfmllaaB
set_option linter.unusedVariables false
set_option linter.unusedSimpArgs false
set_option maxHeartbeats 1000000
set_option maxRecDepth 100000
namespace Go.Proofs.Ytbjcbbnfgfmllaa
open Go.RowKit
theorem drawColour3_any (B bs : Nat) (v : Value) (w : World) (hs : Src w B bs v) :
    Calls Try.prog 142 #[.pointer (some ⟨bs, 0, none⟩)] w fun e w' => AnyInt e ∧ Src w' B bs v ∧ w.grownBy w' (some bs) := by
  have hlt := hs.lt
  have hlow := hs.low
  have hG := World.grownBy.refl w (some bs)
  go_enter Try.func142, Try.ntmps142
  go_wp2_with (go_at_call 158; go_loud (refine (pickL [0, 0, 0, 1, 1, 1, 2, 2, 2, 0, 1, 2, 0, 1, 2, 3, -1] 17 rfl (by omega) (by omega) B bs v _ hs _ _ rfl).mono ?_; rintro e w' ⟨⟨r, rfl, hr⟩, hs', hG'⟩))
  go_ret
  exact ⟨⟨_, rfl⟩, hs', hG'⟩
theorem near_any (m : Int) (hm1 : 0 ≤ m) (hm2 : m ≤ 1000) (B bs : Nat) (v : Value) (w : World) (hs : Src w B bs v) :
    Calls Try.prog 95 #[.pointer (some ⟨bs, 0, none⟩), .int .i64 m] w fun e w' => AnyInt e ∧ Src w' B bs v ∧ w.grownBy w' (some bs) := by
  have hlt := hs.lt
  have hlow := hs.low
  have hG := World.grownBy.refl w (some bs)
  have e0 : IntKind.i64.wrap (m + 1) = m + 1 := IntWalk.i64_in _ (by omega)
  go_enter Try.func95, Try.ntmps95
  go_wp2_with (first | (go_at_call 97; refine (next_any _ B bs v _ hs).mono ?_; rintro e w' ⟨⟨q, rfl, hq0, hq1, _⟩, hs', hG'⟩; replace hs := hs'; replace hG := grownBy_trans hG hG') | (go_at_call 158; refine (pickL [-1, m + 1, 1099511627776, -4611686018427387904] 4 rfl (by omega) (by omega) B bs v _ hs _ _ rfl).mono ?_; rintro e w' ⟨⟨q, rfl, hq⟩, hs', hG'⟩; replace hs := hs'; replace hG := grownBy_trans hG hG'))
  all_goals go_ret
  all_goals exact ⟨⟨_, rfl⟩, hs, hG⟩
theorem pair3_any (v : Value) (w : World) (hv : Bytes w w.heap.size v) :
    Calls Try.prog 62 #[v] w fun e w' => (∃ o0 o1 o2a o2b o2c o3a o3b o3c : Int, e = .returned (.tuple #[.int .i64 o0, .int .i64 o1, .agg #[.int .i64 o2a, .int .i64 o2b, .int .i64 o2c], .agg #[.int .i64 o3a, .int .i64 o3b, .int .i64 o3c]])) ∧ Below w.heap.size w w' := by
  obtain ⟨B, hBw⟩ : ∃ B, B = w.heap.size := ⟨_, rfl⟩
  have hv0 : Bytes w B v := by rw [hBw]; exact hv
  clear hv
  go_enter Try.func62, Try.ntmps62
  go_wp2_with fail
  generalize hW : (World.alloc (World.alloc w (.cells #[.int .i64 0, .int .i64 0, .int .i64 0] 25)) (.cells #[.int .i64 0, .int .i64 0, .int .i64 0] 25)) = W
  have dr00 : W.cell? ⟨w.heap.size, 0, none⟩ = some (.int .i64 0) := by subst hW; go_simp
  have gr00 : W.frozen? ⟨w.heap.size, 0, none⟩ = false := by subst hW; go_simp
  have dr01 : W.cell? ⟨w.heap.size, 1, none⟩ = some (.int .i64 0) := by subst hW; go_simp
  have gr01 : W.frozen? ⟨w.heap.size, 1, none⟩ = false := by subst hW; go_simp
  have dr02 : W.cell? ⟨w.heap.size, 2, none⟩ = some (.int .i64 0) := by subst hW; go_simp
  have gr02 : W.frozen? ⟨w.heap.size, 2, none⟩ = false := by subst hW; go_simp
  have dr10 : W.cell? ⟨w.heap.size + 1, 0, none⟩ = some (.int .i64 0) := by subst hW; go_simp
  have gr10 : W.frozen? ⟨w.heap.size + 1, 0, none⟩ = false := by subst hW; go_simp
  have dr11 : W.cell? ⟨w.heap.size + 1, 1, none⟩ = some (.int .i64 0) := by subst hW; go_simp
  have gr11 : W.frozen? ⟨w.heap.size + 1, 1, none⟩ = false := by subst hW; go_simp
  have dr12 : W.cell? ⟨w.heap.size + 1, 2, none⟩ = some (.int .i64 0) := by subst hW; go_simp
  have gr12 : W.frozen? ⟨w.heap.size + 1, 2, none⟩ = false := by subst hW; go_simp
  have hv1 : Bytes W B v := by subst hW; exact ((hv0).alloc _).alloc _
  have hB : Below w.heap.size w W := by subst hW; go_grown
  have hbs : w.heap.size + 2 ≤ W.heap.size := by subst hW; simp
  clear hW hv0
  refine (from_any v B W hv1 (by omega)).mono ?_
  rintro e w1 ⟨rfl, hs, hbn⟩
  replace gr00 := keepF hbn dr00 gr00
  replace gr01 := keepF hbn dr01 gr01
  replace gr02 := keepF hbn dr02 gr02
  replace gr10 := keepF hbn dr10 gr10
  replace gr11 := keepF hbn dr11 gr11
  replace gr12 := keepF hbn dr12 gr12
  replace dr00 := keepC hbn dr00
  replace dr01 := keepC hbn dr01
  replace dr02 := keepC hbn dr02
  replace dr10 := keepC hbn dr10
  replace dr11 := keepC hbn dr11
  replace dr12 := keepC hbn dr12
  have hG : w.grownBy w1 (some W.heap.size) := grown_below (below_of hB hbn hB.size)
  clear hB hbn hv1
  generalize W.heap.size = bs at *
  clear W
  have hlow := hs.low
  go_wp2_with fail
  go_wp2_with fail
  refine (drawField_any B bs v _ hs).mono ?_
  rintro e w' ⟨⟨p, rfl, hpm⟩, hs', hG'⟩
  replace gr00 := frozenG hG' dr00 (by dsimp only <;> omega) gr00
  replace gr01 := frozenG hG' dr01 (by dsimp only <;> omega) gr01
  replace gr02 := frozenG hG' dr02 (by dsimp only <;> omega) gr02
  replace gr10 := frozenG hG' dr10 (by dsimp only <;> omega) gr10
  replace gr11 := frozenG hG' dr11 (by dsimp only <;> omega) gr11
  replace gr12 := frozenG hG' dr12 (by dsimp only <;> omega) gr12
  replace dr00 := cellG hG' dr00 (by dsimp only <;> omega)
  replace dr01 := cellG hG' dr01 (by dsimp only <;> omega)
  replace dr02 := cellG hG' dr02 (by dsimp only <;> omega)
  replace dr10 := cellG hG' dr10 (by dsimp only <;> omega)
  replace dr11 := cellG hG' dr11 (by dsimp only <;> omega)
  replace dr12 := cellG hG' dr12 (by dsimp only <;> omega)
  replace hs := hs'
  replace hG := grownBy_trans hG hG'
  clear hs' hG'
  have hf := field_of hpm
  have hp := Pl.field_bd hf
  obtain ⟨hp1, hp2⟩ := hp
  clear hpm
  go_wp2_with fail
  refine (drawColour3_any B bs v _ hs).mono ?_
  rintro e w' ⟨⟨k, rfl⟩, hs', hG'⟩
  replace gr00 := frozenG hG' dr00 (by dsimp only <;> omega) gr00
  replace gr01 := frozenG hG' dr01 (by dsimp only <;> omega) gr01
  replace gr02 := frozenG hG' dr02 (by dsimp only <;> omega) gr02
  replace gr10 := frozenG hG' dr10 (by dsimp only <;> omega) gr10
  replace gr11 := frozenG hG' dr11 (by dsimp only <;> omega) gr11
  replace gr12 := frozenG hG' dr12 (by dsimp only <;> omega) gr12
  replace dr00 := cellG hG' dr00 (by dsimp only <;> omega)
  replace dr01 := cellG hG' dr01 (by dsimp only <;> omega)
  replace dr02 := cellG hG' dr02 (by dsimp only <;> omega)
  replace dr10 := cellG hG' dr10 (by dsimp only <;> omega)
  replace dr11 := cellG hG' dr11 (by dsimp only <;> omega)
  replace dr12 := cellG hG' dr12 (by dsimp only <;> omega)
  replace hs := hs'
  replace hG := grownBy_trans hG hG'
  clear hs' hG'
  go_wp2_with fail
  refine (drawLine_any p (by omega) (by omega) B bs v _ hs).mono ?_
  rintro e w' ⟨⟨la, lb, lc, rfl, hl, lb1, lb2, lc1, lc2⟩, hs', hG'⟩
  replace gr00 := frozenG hG' dr00 (by dsimp only <;> omega) gr00
  replace gr01 := frozenG hG' dr01 (by dsimp only <;> omega) gr01
  replace gr02 := frozenG hG' dr02 (by dsimp only <;> omega) gr02
  replace gr10 := frozenG hG' dr10 (by dsimp only <;> omega) gr10
  replace gr11 := frozenG hG' dr11 (by dsimp only <;> omega) gr11
  replace gr12 := frozenG hG' dr12 (by dsimp only <;> omega) gr12
  replace dr00 := cellG hG' dr00 (by dsimp only <;> omega)
  replace dr01 := cellG hG' dr01 (by dsimp only <;> omega)
  replace dr02 := cellG hG' dr02 (by dsimp only <;> omega)
  replace dr10 := cellG hG' dr10 (by dsimp only <;> omega)
  replace dr11 := cellG hG' dr11 (by dsimp only <;> omega)
  replace dr12 := cellG hG' dr12 (by dsimp only <;> omega)
  replace hs := hs'
  replace hG := grownBy_trans hG hG'
  clear hs' hG'
  go_wp2_with fail
  refine (drawLine_any p (by omega) (by omega) B bs v _ hs).mono ?_
  rintro e w' ⟨⟨ma, mb, mc, rfl, hm, mb1, mb2, mc1, mc2⟩, hs', hG'⟩
  replace gr00 := frozenG hG' dr00 (by dsimp only <;> omega) gr00
  replace gr01 := frozenG hG' dr01 (by dsimp only <;> omega) gr01
  replace gr02 := frozenG hG' dr02 (by dsimp only <;> omega) gr02
  replace gr10 := frozenG hG' dr10 (by dsimp only <;> omega) gr10
  replace gr11 := frozenG hG' dr11 (by dsimp only <;> omega) gr11
  replace gr12 := frozenG hG' dr12 (by dsimp only <;> omega) gr12
  replace dr00 := cellG hG' dr00 (by dsimp only <;> omega)
  replace dr01 := cellG hG' dr01 (by dsimp only <;> omega)
  replace dr02 := cellG hG' dr02 (by dsimp only <;> omega)
  replace dr10 := cellG hG' dr10 (by dsimp only <;> omega)
  replace dr11 := cellG hG' dr11 (by dsimp only <;> omega)
  replace dr12 := cellG hG' dr12 (by dsimp only <;> omega)
  replace hs := hs'
  replace hG := grownBy_trans hG hG'
  clear hs' hG'
  go_wp2_with fail
  generalize hW : (World.alloc (World.alloc w' (.cells #[.int .i64 la, .int .i64 lb, .int .i64 lc] 25)) (.cells #[.int .i64 ma, .int .i64 mb, .int .i64 mc] 25)) = W3
  have db000 : W3.cell? ⟨w'.heap.size, 0, none⟩ = some (.int .i64 la) := by subst hW; go_simp
  have db001 : W3.cell? ⟨w'.heap.size, 1, none⟩ = some (.int .i64 lb) := by subst hW; go_simp
  have db002 : W3.cell? ⟨w'.heap.size, 2, none⟩ = some (.int .i64 lc) := by subst hW; go_simp
  have db010 : W3.cell? ⟨w'.heap.size + 1, 0, none⟩ = some (.int .i64 ma) := by subst hW; go_simp
  have gb010 : W3.frozen? ⟨w'.heap.size + 1, 0, none⟩ = false := by subst hW; go_simp
  have db011 : W3.cell? ⟨w'.heap.size + 1, 1, none⟩ = some (.int .i64 mb) := by subst hW; go_simp
  have gb011 : W3.frozen? ⟨w'.heap.size + 1, 1, none⟩ = false := by subst hW; go_simp
  have db012 : W3.cell? ⟨w'.heap.size + 1, 2, none⟩ = some (.int .i64 mc) := by subst hW; go_simp
  have gb012 : W3.frozen? ⟨w'.heap.size + 1, 2, none⟩ = false := by subst hW; go_simp
  have hbn : Below w'.heap.size w' W3 := by subst hW; go_grown
  replace gr00 := keepF hbn dr00 gr00
  replace gr01 := keepF hbn dr01 gr01
  replace gr02 := keepF hbn dr02 gr02
  replace gr10 := keepF hbn dr10 gr10
  replace gr11 := keepF hbn dr11 gr11
  replace gr12 := keepF hbn dr12 gr12
  replace dr00 := keepC hbn dr00
  replace dr01 := keepC hbn dr01
  replace dr02 := keepC hbn dr02
  replace dr10 := keepC hbn dr10
  replace dr11 := keepC hbn dr11
  replace dr12 := keepC hbn dr12
  have hlt0 := hs.lt
  replace hs := hs.keep hbn
  replace hG := grownBy_trans hG (grown_below hbn)
  clear hW hbn
  generalize w'.heap.size = r_0 at *
  clear w'
  refine (next_any 6 B bs v _ hs).mono ?_
  rintro e w' ⟨⟨q, rfl, hq0, hq1, _⟩, hs', hG'⟩
  replace gr00 := frozenG hG' dr00 (by dsimp only <;> omega) gr00
  replace gr01 := frozenG hG' dr01 (by dsimp only <;> omega) gr01
  replace gr02 := frozenG hG' dr02 (by dsimp only <;> omega) gr02
  replace gr10 := frozenG hG' dr10 (by dsimp only <;> omega) gr10
  replace gr11 := frozenG hG' dr11 (by dsimp only <;> omega) gr11
  replace gr12 := frozenG hG' dr12 (by dsimp only <;> omega) gr12
  replace gb010 := frozenG hG' db010 (by dsimp only <;> omega) gb010
  replace gb011 := frozenG hG' db011 (by dsimp only <;> omega) gb011
  replace gb012 := frozenG hG' db012 (by dsimp only <;> omega) gb012
  replace dr00 := cellG hG' dr00 (by dsimp only <;> omega)
  replace dr01 := cellG hG' dr01 (by dsimp only <;> omega)
  replace dr02 := cellG hG' dr02 (by dsimp only <;> omega)
  replace dr10 := cellG hG' dr10 (by dsimp only <;> omega)
  replace dr11 := cellG hG' dr11 (by dsimp only <;> omega)
  replace dr12 := cellG hG' dr12 (by dsimp only <;> omega)
  replace db000 := cellG hG' db000 (by dsimp only <;> omega)
  replace db001 := cellG hG' db001 (by dsimp only <;> omega)
  replace db002 := cellG hG' db002 (by dsimp only <;> omega)
  replace db010 := cellG hG' db010 (by dsimp only <;> omega)
  replace db011 := cellG hG' db011 (by dsimp only <;> omega)
  replace db012 := cellG hG' db012 (by dsimp only <;> omega)
  replace hs := hs'
  replace hG := grownBy_trans hG hG'
  clear hs' hG'
  have hql := hq1 (by omega)
  clear hq1
  by_cases hz : q = 0
  · subst hz
    go_wp2_with fail
    refine Reg.wp_region_steps (by kernel_rfl) 8 (by kernel_rfl) (fun wq => Hid (Src wq B bs v ∧ w.grownBy wq (some bs) ∧ wq.cell? ⟨w.heap.size, 0, none⟩ = some (.int .i64 0) ∧ wq.frozen? ⟨w.heap.size, 0, none⟩ = false ∧ wq.cell? ⟨w.heap.size, 1, none⟩ = some (.int .i64 0) ∧ wq.frozen? ⟨w.heap.size, 1, none⟩ = false ∧ wq.cell? ⟨w.heap.size, 2, none⟩ = some (.int .i64 0) ∧ wq.frozen? ⟨w.heap.size, 2, none⟩ = false ∧ wq.cell? ⟨w.heap.size + 1, 0, none⟩ = some (.int .i64 0) ∧ wq.frozen? ⟨w.heap.size + 1, 0, none⟩ = false ∧ wq.cell? ⟨w.heap.size + 1, 1, none⟩ = some (.int .i64 0) ∧ wq.frozen? ⟨w.heap.size + 1, 1, none⟩ = false ∧ wq.cell? ⟨w.heap.size + 1, 2, none⟩ = some (.int .i64 0) ∧ wq.frozen? ⟨w.heap.size + 1, 2, none⟩ = false ∧ wq.cell? ⟨r_0, 0, none⟩ = some (.int .i64 la) ∧ wq.cell? ⟨r_0, 1, none⟩ = some (.int .i64 lb) ∧ wq.cell? ⟨r_0, 2, none⟩ = some (.int .i64 lc) ∧ wq.cell? ⟨r_0 + 1, 0, none⟩ = some (.int .i64 ma) ∧ wq.frozen? ⟨r_0 + 1, 0, none⟩ = false ∧ wq.cell? ⟨r_0 + 1, 1, none⟩ = some (.int .i64 mb) ∧ wq.frozen? ⟨r_0 + 1, 1, none⟩ = false ∧ wq.cell? ⟨r_0 + 1, 2, none⟩ = some (.int .i64 mc) ∧ wq.frozen? ⟨r_0 + 1, 2, none⟩ = false)) [(fun v => v = .pointer (some ⟨r_0, 0, none⟩)), (fun v => v = .int .i64 la), (fun v => v = .pointer (some ⟨r_0, 1, none⟩)), (fun v => v = .int .i64 lb), (fun v => v = .pointer (some ⟨bs, 0, none⟩)), (fun v => v = .int .i64 p), (IsN p), IsL] (Reg.inh_cons ⟨_, rfl⟩ (Reg.inh_cons ⟨_, rfl⟩ (Reg.inh_cons ⟨_, rfl⟩ (Reg.inh_cons ⟨_, rfl⟩ (Reg.inh_cons ⟨_, rfl⟩ (Reg.inh_cons ⟨_, rfl⟩ (Reg.inh_cons ⟨.int .i64 0, 0, rfl, by omega, by omega⟩ (Reg.inh_cons ⟨.agg #[.int .i64 0, .int .i64 0, .int .i64 0], _, _, _, rfl⟩ (Reg.inh_nil))))))))) ?_ ?_
    · exact hid ⟨hs.drew, grownBy_drew hG, keepC (Below.refl _ _).drew dr00, keepF (Below.refl _ _).drew dr00 gr00, keepC (Below.refl _ _).drew dr01, keepF (Below.refl _ _).drew dr01 gr01, keepC (Below.refl _ _).drew dr02, keepF (Below.refl _ _).drew dr02 gr02, keepC (Below.refl _ _).drew dr10, keepF (Below.refl _ _).drew dr10 gr10, keepC (Below.refl _ _).drew dr11, keepF (Below.refl _ _).drew dr11 gr11, keepC (Below.refl _ _).drew dr12, keepF (Below.refl _ _).drew dr12 gr12, keepC (Below.refl _ _).drew db000, keepC (Below.refl _ _).drew db001, keepC (Below.refl _ _).drew db002, keepC (Below.refl _ _).drew db010, keepF (Below.refl _ _).drew db010 gb010, keepC (Below.refl _ _).drew db011, keepF (Below.refl _ _).drew db011 gb011, keepC (Below.refl _ _).drew db012, keepF (Below.refl _ _).drew db012 gb012⟩
    clear hs hG dr00 gr00 dr01 gr01 dr02 gr02 dr10 gr10 dr11 gr11 dr12 gr12 db000 db001 db002 db010 gb010 db011 gb011 db012 gb012
    simp only [List.take_succ_cons, List.take_zero, List.drop_succ_cons, List.drop_zero]
    refine Reg.wpSq_val (fun wq hq => ?gs1x0) ?ks1x0
    case gs1x0 => (obtain ⟨hs, hG, dr00, gr00, dr01, gr01, dr02, gr02, dr10, gr10, dr11, gr11, dr12, gr12, db000, db001, db002, db010, gb010, db011, gb011, db012, gb012⟩ := hq.out; go_simp; first | done | (with_reducible rfl) | rfl)
    try simp only [Act.put, List.setIfInBounds_toArray, List.set_cons_zero, List.set_cons_succ]
    refine Reg.wpSq_val (fun wq hq => ?gs1x1) ?ks1x1
    case gs1x1 => (obtain ⟨hs, hG, dr00, gr00, dr01, gr01, dr02, gr02, dr10, gr10, dr11, gr11, dr12, gr12, db000, db001, db002, db010, gb010, db011, gb011, db012, gb012⟩ := hq.out; go_simp; first | done | (with_reducible rfl) | rfl)
    try simp only [Act.put, List.setIfInBounds_toArray, List.set_cons_zero, List.set_cons_succ]
    refine Reg.wpSq_val (fun wq hq => ?gs1x2) ?ks1x2
    case gs1x2 => (obtain ⟨hs, hG, dr00, gr00, dr01, gr01, dr02, gr02, dr10, gr10, dr11, gr11, dr12, gr12, db000, db001, db002, db010, gb010, db011, gb011, db012, gb012⟩ := hq.out; go_simp; first | done | (with_reducible rfl) | rfl)
    try simp only [Act.put, List.setIfInBounds_toArray, List.set_cons_zero, List.set_cons_succ]
    refine Reg.wpSq_val (fun wq hq => ?gs1x3) ?ks1x3
    case gs1x3 => (obtain ⟨hs, hG, dr00, gr00, dr01, gr01, dr02, gr02, dr10, gr10, dr11, gr11, dr12, gr12, db000, db001, db002, db010, gb010, db011, gb011, db012, gb012⟩ := hq.out; go_simp; first | done | (with_reducible rfl) | rfl)
    try simp only [Act.put, List.setIfInBounds_toArray, List.set_cons_zero, List.set_cons_succ]
    refine Reg.wpSq_val (fun wq hq => ?gs1x4) ?ks1x4
    case gs1x4 => (obtain ⟨hs, hG, dr00, gr00, dr01, gr01, dr02, gr02, dr10, gr10, dr11, gr11, dr12, gr12, db000, db001, db002, db010, gb010, db011, gb011, db012, gb012⟩ := hq.out; go_simp; first | done | (with_reducible rfl) | rfl)
    try simp only [Act.put, List.setIfInBounds_toArray, List.set_cons_zero, List.set_cons_succ]
    refine Reg.wpSq_val (fun wq hq => ?gs1x5) ?ks1x5
    case gs1x5 => (obtain ⟨hs, hG, dr00, gr00, dr01, gr01, dr02, gr02, dr10, gr10, dr11, gr11, dr12, gr12, db000, db001, db002, db010, gb010, db011, gb011, db012, gb012⟩ := hq.out; go_simp; first | done | (with_reducible rfl) | rfl)
    try simp only [Act.put, List.setIfInBounds_toArray, List.set_cons_zero, List.set_cons_succ]
    refine Reg.wpSq_step (fun wq hq => ?gs1x6) ?ks1x6
    case gs1x6 =>
      obtain ⟨hs, hG, dr00, gr00, dr01, gr01, dr02, gr02, dr10, gr10, dr11, gr11, dr12, gr12, db000, db001, db002, db010, gb010, db011, gb011, db012, gb012⟩ := hq.out
      refine Reg.sAt_call (f := 97) (args := #[.pointer (some ⟨bs, 0, none⟩), .int .i64 p]) (by go_simp) ?_
      refine (next_any p B bs v _ hs).mono ?_
      rintro e w' ⟨⟨q9, rfl, hq9, hq8, _⟩, hs', hG'⟩
      replace gr00 := frozenG hG' dr00 (by dsimp only <;> omega) gr00
      replace gr01 := frozenG hG' dr01 (by dsimp only <;> omega) gr01
      replace gr02 := frozenG hG' dr02 (by dsimp only <;> omega) gr02
      replace gr10 := frozenG hG' dr10 (by dsimp only <;> omega) gr10
      replace gr11 := frozenG hG' dr11 (by dsimp only <;> omega) gr11
      replace gr12 := frozenG hG' dr12 (by dsimp only <;> omega) gr12
      replace gb010 := frozenG hG' db010 (by dsimp only <;> omega) gb010
      replace gb011 := frozenG hG' db011 (by dsimp only <;> omega) gb011
      replace gb012 := frozenG hG' db012 (by dsimp only <;> omega) gb012
      replace dr00 := cellG hG' dr00 (by dsimp only <;> omega)
      replace dr01 := cellG hG' dr01 (by dsimp only <;> omega)
      replace dr02 := cellG hG' dr02 (by dsimp only <;> omega)
      replace dr10 := cellG hG' dr10 (by dsimp only <;> omega)
      replace dr11 := cellG hG' dr11 (by dsimp only <;> omega)
      replace dr12 := cellG hG' dr12 (by dsimp only <;> omega)
      replace db000 := cellG hG' db000 (by dsimp only <;> omega)
      replace db001 := cellG hG' db001 (by dsimp only <;> omega)
      replace db002 := cellG hG' db002 (by dsimp only <;> omega)
      replace db010 := cellG hG' db010 (by dsimp only <;> omega)
      replace db011 := cellG hG' db011 (by dsimp only <;> omega)
      replace db012 := cellG hG' db012 (by dsimp only <;> omega)
      replace hs := hs'
      replace hG := grownBy_trans hG hG'
      clear hs' hG'
      exact ⟨_, rfl, ⟨_, rfl, hq9, hq8 (by omega)⟩, hid ⟨hs, hG, dr00, gr00, dr01, gr01, dr02, gr02, dr10, gr10, dr11, gr11, dr12, gr12, db000, db001, db002, db010, gb010, db011, gb011, db012, gb012⟩⟩
    rintro _ ⟨t, rfl, t1, t2⟩
    try simp only [Act.put, List.setIfInBounds_toArray, List.set_cons_zero, List.set_cons_succ]
    refine Reg.wpSq_step (fun wq hq => ?gs1x7) ?ks1x7
    case gs1x7 => exact Reg.sAt_val (v := .agg #[.int .i64 la, .int .i64 lb, .int .i64 t]) (by go_simp; first | done | rfl) ⟨_, _, _, rfl⟩ hq
    rintro _ ⟨ea, eb, ec, rfl⟩
    try simp only [Act.put, List.setIfInBounds_toArray, List.set_cons_zero, List.set_cons_succ]
    intro w2 hq
    obtain ⟨hs, hG, dr00, gr00, dr01, gr01, dr02, gr02, dr10, gr10, dr11, gr11, dr12, gr12, db000, db001, db002, db010, gb010, db011, gb011, db012, gb012⟩ := hq.out
    clear hq
    change wpList _ _ _ _ _ _
    go_wp2_with fail
    generalize hW : (World.setCell (World.setCell (World.setCell w2 ⟨r_0 + 1, 0, none⟩ (.int .i64 ea)) ⟨r_0 + 1, 1, none⟩ (.int .i64 eb)) ⟨r_0 + 1, 2, none⟩ (.int .i64 ec)) = W4
    have hP : ∀ k, k ≠ r_0 + 1 → W4.heap[k]? = w2.heap[k]? := by subst hW; exact put3_heap _ _ _ _ _
    have hZ : W4.heap.size = w2.heap.size := by subst hW; exact put3_size _ _ _ _ _
    have ndb010 : W4.cell? ⟨r_0 + 1, 0, none⟩ = some (.int .i64 ea) := by subst hW; simp [World.cell?_setCell_other, World.cell?_setCell_same, db010, db011, db012]
    have ndb011 : W4.cell? ⟨r_0 + 1, 1, none⟩ = some (.int .i64 eb) := by subst hW; simp [World.cell?_setCell_other, World.cell?_setCell_same, db010, db011, db012]
    have ndb012 : W4.cell? ⟨r_0 + 1, 2, none⟩ = some (.int .i64 ec) := by subst hW; simp [World.cell?_setCell_other, World.cell?_setCell_same, db010, db011, db012]
    have ngb010 : W4.frozen? ⟨r_0 + 1, 0, none⟩ = false := by subst hW; simp [gb010]
    have ngb011 : W4.frozen? ⟨r_0 + 1, 1, none⟩ = false := by subst hW; simp [gb011]
    have ngb012 : W4.frozen? ⟨r_0 + 1, 2, none⟩ = false := by subst hW; simp [gb012]
    have hG2 : w.grownBy W4 (some bs) := by subst hW; exact grown_put3 hG (by omega) _ _ _
    replace hs := hs.put hP hZ (by omega) (by omega)
    replace hG := hG2
    clear hG2
    replace dr00 := cellP hP dr00 (by dsimp only <;> omega)
    replace gr00 := frozenP hP gr00 (by dsimp only <;> omega)
    replace dr01 := cellP hP dr01 (by dsimp only <;> omega)
    replace gr01 := frozenP hP gr01 (by dsimp only <;> omega)
    replace dr02 := cellP hP dr02 (by dsimp only <;> omega)
    replace gr02 := frozenP hP gr02 (by dsimp only <;> omega)
    replace dr10 := cellP hP dr10 (by dsimp only <;> omega)
    replace gr10 := frozenP hP gr10 (by dsimp only <;> omega)
    replace dr11 := cellP hP dr11 (by dsimp only <;> omega)
    replace gr11 := frozenP hP gr11 (by dsimp only <;> omega)
    replace dr12 := cellP hP dr12 (by dsimp only <;> omega)
    replace gr12 := frozenP hP gr12 (by dsimp only <;> omega)
    replace db000 := cellP hP db000 (by dsimp only <;> omega)
    replace db001 := cellP hP db001 (by dsimp only <;> omega)
    replace db002 := cellP hP db002 (by dsimp only <;> omega)
    replace db010 := ndb010
    clear ndb010
    replace gb010 := ngb010
    clear ngb010
    replace db011 := ndb011
    clear ndb011
    replace gb011 := ngb011
    clear ngb011
    replace db012 := ndb012
    clear ndb012
    replace gb012 := ngb012
    clear ngb012
    clear hP hZ hW
    go_wp2_with fail
    have h_r0 : Res3 _ (w.heap.size) := ⟨World.block_lt_of_cell? _ _ dr00, ⟨_, dr00⟩, ⟨_, dr01⟩, ⟨_, dr02⟩, fun j hj => by match j, hj with | 0, _ => exact gr00 | 1, _ => exact gr01 | 2, _ => exact gr02⟩
    have h_r1 : Res3 _ (w.heap.size + 1) := ⟨World.block_lt_of_cell? _ _ dr10, ⟨_, dr10⟩, ⟨_, dr11⟩, ⟨_, dr12⟩, fun j hj => by match j, hj with | 0, _ => exact gr10 | 1, _ => exact gr11 | 2, _ => exact gr12⟩
    clear dr00 gr00 dr01 gr01 dr02 gr02 dr10 gr10 dr11 gr11 dr12 gr12
    refine Reg.wp_region_steps7 (by kernel_rfl) 16 (by kernel_rfl) (fun wq => Hid (Src wq B bs v ∧ w.grownBy wq (some bs) ∧ wq.cell? ⟨r_0, 0, none⟩ = some (.int .i64 la) ∧ wq.cell? ⟨r_0, 1, none⟩ = some (.int .i64 lb) ∧ wq.cell? ⟨r_0, 2, none⟩ = some (.int .i64 lc) ∧ wq.cell? ⟨r_0 + 1, 0, none⟩ = some (.int .i64 ea) ∧ wq.frozen? ⟨r_0 + 1, 0, none⟩ = false ∧ wq.cell? ⟨r_0 + 1, 1, none⟩ = some (.int .i64 eb) ∧ wq.frozen? ⟨r_0 + 1, 1, none⟩ = false ∧ wq.cell? ⟨r_0 + 1, 2, none⟩ = some (.int .i64 ec) ∧ wq.frozen? ⟨r_0 + 1, 2, none⟩ = false ∧ Res3 wq (w.heap.size) ∧ Res3 wq (w.heap.size + 1))) [(fun v => v = .pointer (some ⟨bs, 0, none⟩)), (fun v => v = .int .i64 p), IsI, (fun v => v = .int .i64 k), (fun v => v = .pointer (some ⟨bs, 0, none⟩)), (fun v => v = .int .i64 p), (fun v => v = .agg #[.int .i64 la, .int .i64 lb, .int .i64 lc]), IsL, (fun v => v = .pointer (some ⟨bs, 0, none⟩)), (fun v => v = .int .i64 p), (fun v => v = .agg #[.int .i64 ea, .int .i64 eb, .int .i64 ec]), IsL, IsI, (fun v => v = .int .i64 k), Reg.anyV, Reg.anyV] (Reg.inh_cons ⟨_, rfl⟩ (Reg.inh_cons ⟨_, rfl⟩ (Reg.inh_cons ⟨.int .i64 0, _, rfl⟩ (Reg.inh_cons ⟨_, rfl⟩ (Reg.inh_cons ⟨_, rfl⟩ (Reg.inh_cons ⟨_, rfl⟩ (Reg.inh_cons ⟨_, rfl⟩ (Reg.inh_cons ⟨.agg #[.int .i64 0, .int .i64 0, .int .i64 0], _, _, _, rfl⟩ (Reg.inh_cons ⟨_, rfl⟩ (Reg.inh_cons ⟨_, rfl⟩ (Reg.inh_cons ⟨_, rfl⟩ (Reg.inh_cons ⟨.agg #[.int .i64 0, .int .i64 0, .int .i64 0], _, _, _, rfl⟩ (Reg.inh_cons ⟨.int .i64 0, _, rfl⟩ (Reg.inh_cons ⟨_, rfl⟩ (Reg.inh_cons ⟨undef, trivial⟩ (Reg.inh_cons ⟨undef, trivial⟩ (Reg.inh_nil))))))))))))))))) ?_ ?_
    · exact hid ⟨hs.drew, grownBy_drew hG, keepC (Below.refl _ _).drew db000, keepC (Below.refl _ _).drew db001, keepC (Below.refl _ _).drew db002, keepC (Below.refl _ _).drew db010, keepF (Below.refl _ _).drew db010 gb010, keepC (Below.refl _ _).drew db011, keepF (Below.refl _ _).drew db011 gb011, keepC (Below.refl _ _).drew db012, keepF (Below.refl _ _).drew db012 gb012, h_r0.keep (Below.refl _ _).drew, h_r1.keep (Below.refl _ _).drew⟩
    clear hs hG db000 db001 db002 db010 gb010 db011 gb011 db012 gb012 h_r0 h_r1
    simp only [List.take_succ_cons, List.take_zero, List.drop_succ_cons, List.drop_zero]
    refine Reg.wpS7_val (fun wq hq => ?gs2x0) ?ks2x0
    case gs2x0 => (obtain ⟨hs, hG, db000, db001, db002, db010, gb010, db011, gb011, db012, gb012, h_r0, h_r1⟩ := hq.out; go_simp; first | done | (with_reducible rfl) | rfl)
    try simp only [Act.put, List.setIfInBounds_toArray, List.set_cons_zero, List.set_cons_succ]
    refine Reg.wpS7_val (fun wq hq => ?gs2x1) ?ks2x1
    case gs2x1 => (obtain ⟨hs, hG, db000, db001, db002, db010, gb010, db011, gb011, db012, gb012, h_r0, h_r1⟩ := hq.out; go_simp; first | done | (with_reducible rfl) | rfl)
    try simp only [Act.put, List.setIfInBounds_toArray, List.set_cons_zero, List.set_cons_succ]
    refine Reg.wpS7_step (fun wq hq => ?gs2x2) ?ks2x2
    case gs2x2 =>
      obtain ⟨hs, hG, db000, db001, db002, db010, gb010, db011, gb011, db012, gb012, h_r0, h_r1⟩ := hq.out
      refine Reg.sAt7_call (f := 99) (args := #[.pointer (some ⟨bs, 0, none⟩), .int .i64 p]) (by go_simp) ?_
      refine (badField_any _ B bs v _ hs).mono ?_
      rintro e w' ⟨⟨q0, rfl⟩, hs', hG'⟩
      replace h_r0 := h_r0.grown hG' (by omega)
      replace h_r1 := h_r1.grown hG' (by omega)
      replace gb010 := frozenG hG' db010 (by dsimp only <;> omega) gb010
      replace gb011 := frozenG hG' db011 (by dsimp only <;> omega) gb011
      replace gb012 := frozenG hG' db012 (by dsimp only <;> omega) gb012
      replace db000 := cellG hG' db000 (by dsimp only <;> omega)
      replace db001 := cellG hG' db001 (by dsimp only <;> omega)
      replace db002 := cellG hG' db002 (by dsimp only <;> omega)
      replace db010 := cellG hG' db010 (by dsimp only <;> omega)
      replace db011 := cellG hG' db011 (by dsimp only <;> omega)
      replace db012 := cellG hG' db012 (by dsimp only <;> omega)
      replace hs := hs'
      replace hG := grownBy_trans hG hG'
      clear hs' hG'
      exact ⟨_, rfl, ⟨_, rfl⟩, hid ⟨hs, hG, db000, db001, db002, db010, gb010, db011, gb011, db012, gb012, h_r0, h_r1⟩⟩
    rintro _ ⟨uf, rfl⟩
    try simp only [Act.put, List.setIfInBounds_toArray, List.set_cons_zero, List.set_cons_succ]
    refine Reg.wpS7_val (fun wq hq => ?gs2x3) ?ks2x3
    case gs2x3 => (obtain ⟨hs, hG, db000, db001, db002, db010, gb010, db011, gb011, db012, gb012, h_r0, h_r1⟩ := hq.out; go_simp; first | done | (with_reducible rfl) | rfl)
    try simp only [Act.put, List.setIfInBounds_toArray, List.set_cons_zero, List.set_cons_succ]
    refine Reg.wpS7_val (fun wq hq => ?gs2x4) ?ks2x4
    case gs2x4 => (obtain ⟨hs, hG, db000, db001, db002, db010, gb010, db011, gb011, db012, gb012, h_r0, h_r1⟩ := hq.out; go_simp; first | done | (with_reducible rfl) | rfl)
    try simp only [Act.put, List.setIfInBounds_toArray, List.set_cons_zero, List.set_cons_succ]
    refine Reg.wpS7_val (fun wq hq => ?gs2x5) ?ks2x5
    case gs2x5 => (obtain ⟨hs, hG, db000, db001, db002, db010, gb010, db011, gb011, db012, gb012, h_r0, h_r1⟩ := hq.out; go_simp; first | done | (with_reducible rfl) | rfl)
    try simp only [Act.put, List.setIfInBounds_toArray, List.set_cons_zero, List.set_cons_succ]
    refine Reg.wpS7_val (fun wq hq => ?gs2x6) ?ks2x6
    case gs2x6 => (obtain ⟨hs, hG, db000, db001, db002, db010, gb010, db011, gb011, db012, gb012, h_r0, h_r1⟩ := hq.out; go_simp; first | done | (with_reducible rfl) | rfl)
    try simp only [Act.put, List.setIfInBounds_toArray, List.set_cons_zero, List.set_cons_succ]
    refine Reg.wpS7_step (fun wq hq => ?gs2x7) ?ks2x7
    case gs2x7 =>
      obtain ⟨hs, hG, db000, db001, db002, db010, gb010, db011, gb011, db012, gb012, h_r0, h_r1⟩ := hq.out
      refine Reg.sAt7_call (f := 143) (args := #[.pointer (some ⟨bs, 0, none⟩), .int .i64 p, .agg #[.int .i64 la, .int .i64 lb, .int .i64 lc]]) (by go_simp) ?_
      refine (badLine_any _ _ _ _ B bs v _ hs).mono ?_
      rintro e w' ⟨⟨q0, q1, q2, rfl⟩, hs', hG'⟩
      replace h_r0 := h_r0.grown hG' (by omega)
      replace h_r1 := h_r1.grown hG' (by omega)
      replace gb010 := frozenG hG' db010 (by dsimp only <;> omega) gb010
      replace gb011 := frozenG hG' db011 (by dsimp only <;> omega) gb011
      replace gb012 := frozenG hG' db012 (by dsimp only <;> omega) gb012
      replace db000 := cellG hG' db000 (by dsimp only <;> omega)
      replace db001 := cellG hG' db001 (by dsimp only <;> omega)
      replace db002 := cellG hG' db002 (by dsimp only <;> omega)
      replace db010 := cellG hG' db010 (by dsimp only <;> omega)
      replace db011 := cellG hG' db011 (by dsimp only <;> omega)
      replace db012 := cellG hG' db012 (by dsimp only <;> omega)
      replace hs := hs'
      replace hG := grownBy_trans hG hG'
      clear hs' hG'
      exact ⟨_, rfl, ⟨_, _, _, rfl⟩, hid ⟨hs, hG, db000, db001, db002, db010, gb010, db011, gb011, db012, gb012, h_r0, h_r1⟩⟩
    rintro _ ⟨ua, ub, uc, rfl⟩
    try simp only [Act.put, List.setIfInBounds_toArray, List.set_cons_zero, List.set_cons_succ]
    refine Reg.wpS7_val (fun wq hq => ?gs2x8) ?ks2x8
    case gs2x8 => (obtain ⟨hs, hG, db000, db001, db002, db010, gb010, db011, gb011, db012, gb012, h_r0, h_r1⟩ := hq.out; go_simp; first | done | (with_reducible rfl) | rfl)
    try simp only [Act.put, List.setIfInBounds_toArray, List.set_cons_zero, List.set_cons_succ]
    refine Reg.wpS7_val (fun wq hq => ?gs2x9) ?ks2x9
    case gs2x9 => (obtain ⟨hs, hG, db000, db001, db002, db010, gb010, db011, gb011, db012, gb012, h_r0, h_r1⟩ := hq.out; go_simp; first | done | (with_reducible rfl) | rfl)
    try simp only [Act.put, List.setIfInBounds_toArray, List.set_cons_zero, List.set_cons_succ]
    refine Reg.wpS7_val (fun wq hq => ?gs2x10) ?ks2x10
    case gs2x10 => (obtain ⟨hs, hG, db000, db001, db002, db010, gb010, db011, gb011, db012, gb012, h_r0, h_r1⟩ := hq.out; go_simp; first | done | (with_reducible rfl) | rfl)
    try simp only [Act.put, List.setIfInBounds_toArray, List.set_cons_zero, List.set_cons_succ]
    refine Reg.wpS7_step (fun wq hq => ?gs2x11) ?ks2x11
    case gs2x11 =>
      obtain ⟨hs, hG, db000, db001, db002, db010, gb010, db011, gb011, db012, gb012, h_r0, h_r1⟩ := hq.out
      refine Reg.sAt7_call (f := 143) (args := #[.pointer (some ⟨bs, 0, none⟩), .int .i64 p, .agg #[.int .i64 ea, .int .i64 eb, .int .i64 ec]]) (by go_simp) ?_
      refine (badLine_any _ _ _ _ B bs v _ hs).mono ?_
      rintro e w' ⟨⟨q0, q1, q2, rfl⟩, hs', hG'⟩
      replace h_r0 := h_r0.grown hG' (by omega)
      replace h_r1 := h_r1.grown hG' (by omega)
      replace gb010 := frozenG hG' db010 (by dsimp only <;> omega) gb010
      replace gb011 := frozenG hG' db011 (by dsimp only <;> omega) gb011
      replace gb012 := frozenG hG' db012 (by dsimp only <;> omega) gb012
      replace db000 := cellG hG' db000 (by dsimp only <;> omega)
      replace db001 := cellG hG' db001 (by dsimp only <;> omega)
      replace db002 := cellG hG' db002 (by dsimp only <;> omega)
      replace db010 := cellG hG' db010 (by dsimp only <;> omega)
      replace db011 := cellG hG' db011 (by dsimp only <;> omega)
      replace db012 := cellG hG' db012 (by dsimp only <;> omega)
      replace hs := hs'
      replace hG := grownBy_trans hG hG'
      clear hs' hG'
      exact ⟨_, rfl, ⟨_, _, _, rfl⟩, hid ⟨hs, hG, db000, db001, db002, db010, gb010, db011, gb011, db012, gb012, h_r0, h_r1⟩⟩
    rintro _ ⟨xa, xb, xc, rfl⟩
    try simp only [Act.put, List.setIfInBounds_toArray, List.set_cons_zero, List.set_cons_succ]
    refine Reg.wpS7_step (fun wq hq => ?gs2x12) ?ks2x12
    case gs2x12 => exact Reg.sAt7_val (v := .int .i64 uf) (by go_simp; first | done | rfl) ⟨_, rfl⟩ hq
    rintro _ ⟨uf2, rfl⟩
    try simp only [Act.put, List.setIfInBounds_toArray, List.set_cons_zero, List.set_cons_succ]
    refine Reg.wpS7_val (fun wq hq => ?gs2x13) ?ks2x13
    case gs2x13 => (obtain ⟨hs, hG, db000, db001, db002, db010, gb010, db011, gb011, db012, gb012, h_r0, h_r1⟩ := hq.out; go_simp; first | done | (with_reducible rfl) | rfl)
    try simp only [Act.put, List.setIfInBounds_toArray, List.set_cons_zero, List.set_cons_succ]
    refine Reg.wpS7_skip rfl (fun wq hq => ?gs2x14) ?ks2x14
    case gs2x14 =>
      obtain ⟨hs, hG, db000, db001, db002, db010, gb010, db011, gb011, db012, gb012, h_r0, h_r1⟩ := hq.out
      have hres := h_r0
      obtain ⟨_, ⟨x0, cc0⟩, ⟨x1, cc1⟩, ⟨x2, cc2⟩, hz⟩ := h_r0
      have ff0 := hz 0 (by omega)
      have ff1 := hz 1 (by omega)
      have ff2 := hz 2 (by omega)
      exact ⟨put3 wq (w.heap.size) (ua) (ub) (uc), by unfold put3; go_simp, hid ⟨hs.put (put3_heap _ _ _ _ _) (put3_size _ _ _ _ _) (by omega) (by omega), grown_put3 hG (by omega) _ _ _, cellP (put3_heap _ _ _ _ _) db000 (by dsimp only <;> omega), cellP (put3_heap _ _ _ _ _) db001 (by dsimp only <;> omega), cellP (put3_heap _ _ _ _ _) db002 (by dsimp only <;> omega), cellP (put3_heap _ _ _ _ _) db010 (by dsimp only <;> omega), frozenP (put3_heap _ _ _ _ _) gb010 (by dsimp only <;> omega), cellP (put3_heap _ _ _ _ _) db011 (by dsimp only <;> omega), frozenP (put3_heap _ _ _ _ _) gb011 (by dsimp only <;> omega), cellP (put3_heap _ _ _ _ _) db012 (by dsimp only <;> omega), frozenP (put3_heap _ _ _ _ _) gb012 (by dsimp only <;> omega), hres.put _ _ _, h_r1.heap (by rw [put3_size]; exact Nat.le_refl _) (put3_heap _ _ _ _ _ _ (by omega))⟩⟩
    try simp only [Act.put, List.setIfInBounds_toArray, List.set_cons_zero, List.set_cons_succ]
    refine Reg.wpS7_skip rfl (fun wq hq => ?gs2x15) ?ks2x15
    case gs2x15 =>
      obtain ⟨hs, hG, db000, db001, db002, db010, gb010, db011, gb011, db012, gb012, h_r0, h_r1⟩ := hq.out
      have hres := h_r1
      obtain ⟨_, ⟨x0, cc0⟩, ⟨x1, cc1⟩, ⟨x2, cc2⟩, hz⟩ := h_r1
      have ff0 := hz 0 (by omega)
      have ff1 := hz 1 (by omega)
      have ff2 := hz 2 (by omega)
      exact ⟨put3 wq (w.heap.size + 1) (xa) (xb) (xc), by unfold put3; go_simp, hid ⟨hs.put (put3_heap _ _ _ _ _) (put3_size _ _ _ _ _) (by omega) (by omega), grown_put3 hG (by omega) _ _ _, cellP (put3_heap _ _ _ _ _) db000 (by dsimp only <;> omega), cellP (put3_heap _ _ _ _ _) db001 (by dsimp only <;> omega), cellP (put3_heap _ _ _ _ _) db002 (by dsimp only <;> omega), cellP (put3_heap _ _ _ _ _) db010 (by dsimp only <;> omega), frozenP (put3_heap _ _ _ _ _) gb010 (by dsimp only <;> omega), cellP (put3_heap _ _ _ _ _) db011 (by dsimp only <;> omega), frozenP (put3_heap _ _ _ _ _) gb011 (by dsimp only <;> omega), cellP (put3_heap _ _ _ _ _) db012 (by dsimp only <;> omega), frozenP (put3_heap _ _ _ _ _) gb012 (by dsimp only <;> omega), h_r0.heap (by rw [put3_size]; exact Nat.le_refl _) (put3_heap _ _ _ _ _ _ (by omega)), hres.put _ _ _⟩⟩
    try simp only [Act.put, List.setIfInBounds_toArray, List.set_cons_zero, List.set_cons_succ]
    intro w2 hq
    obtain ⟨hs, hG, db000, db001, db002, db010, gb010, db011, gb011, db012, gb012, h_r0, h_r1⟩ := hq.out
    clear hq
    change wpList _ _ _ _ _ _
    obtain ⟨_, ⟨x00, cr00⟩, ⟨x01, cr01⟩, ⟨x02, cr02⟩, _⟩ := h_r0
    obtain ⟨_, ⟨x10, cr10⟩, ⟨x11, cr11⟩, ⟨x12, cr12⟩, _⟩ := h_r1
    go_wp2_with fail
    try simp only [Exit.inBlock, Exit.then]
    refine bodyPost_ret (by simp [results, Try.results62, go_sem, cr00, cr01, cr02, cr10, cr11, cr12]; try rfl) rfl ?_
    exact ⟨⟨_, _, _, _, _, _, _, _, rfl⟩, by have hBf := below_grown (Below.refl w.heap.size w) hG (by omega) (by omega); first | exact hBf | (rw [hbs]; exact hBf) | go_grown⟩
  · by_cases hz1 : q = 1
    · subst hz1
      have e9 : IntKind.i64.wrap (-lb) = -lb := IntWalk.i64_in _ (by omega)
      go_wp2_with fail
      refine Reg.wp_region_steps (by kernel_rfl) 10 (by kernel_rfl) (fun wq => Hid (Src wq B bs v ∧ w.grownBy wq (some bs) ∧ wq.cell? ⟨w.heap.size, 0, none⟩ = some (.int .i64 0) ∧ wq.frozen? ⟨w.heap.size, 0, none⟩ = false ∧ wq.cell? ⟨w.heap.size, 1, none⟩ = some (.int .i64 0) ∧ wq.frozen? ⟨w.heap.size, 1, none⟩ = false ∧ wq.cell? ⟨w.heap.size, 2, none⟩ = some (.int .i64 0) ∧ wq.frozen? ⟨w.heap.size, 2, none⟩ = false ∧ wq.cell? ⟨w.heap.size + 1, 0, none⟩ = some (.int .i64 0) ∧ wq.frozen? ⟨w.heap.size + 1, 0, none⟩ = false ∧ wq.cell? ⟨w.heap.size + 1, 1, none⟩ = some (.int .i64 0) ∧ wq.frozen? ⟨w.heap.size + 1, 1, none⟩ = false ∧ wq.cell? ⟨w.heap.size + 1, 2, none⟩ = some (.int .i64 0) ∧ wq.frozen? ⟨w.heap.size + 1, 2, none⟩ = false ∧ wq.cell? ⟨r_0, 0, none⟩ = some (.int .i64 la) ∧ wq.cell? ⟨r_0, 1, none⟩ = some (.int .i64 lb) ∧ wq.cell? ⟨r_0, 2, none⟩ = some (.int .i64 lc) ∧ wq.cell? ⟨r_0 + 1, 0, none⟩ = some (.int .i64 ma) ∧ wq.frozen? ⟨r_0 + 1, 0, none⟩ = false ∧ wq.cell? ⟨r_0 + 1, 1, none⟩ = some (.int .i64 mb) ∧ wq.frozen? ⟨r_0 + 1, 1, none⟩ = false ∧ wq.cell? ⟨r_0 + 1, 2, none⟩ = some (.int .i64 mc) ∧ wq.frozen? ⟨r_0 + 1, 2, none⟩ = false)) [(fun v => v = .int .i64 p), (fun v => v = .pointer (some ⟨r_0, 1, none⟩)), (fun v => v = .int .i64 lb), (fun v => v = .int .i64 (-lb)), (fun v => v = .pointer (some ⟨r_0, 0, none⟩)), (fun v => v = .int .i64 la), (fun v => v = .pointer (some ⟨bs, 0, none⟩)), (fun v => v = .int .i64 p), (IsN p), IsL] (Reg.inh_cons ⟨_, rfl⟩ (Reg.inh_cons ⟨_, rfl⟩ (Reg.inh_cons ⟨_, rfl⟩ (Reg.inh_cons ⟨_, rfl⟩ (Reg.inh_cons ⟨_, rfl⟩ (Reg.inh_cons ⟨_, rfl⟩ (Reg.inh_cons ⟨_, rfl⟩ (Reg.inh_cons ⟨_, rfl⟩ (Reg.inh_cons ⟨.int .i64 0, 0, rfl, by omega, by omega⟩ (Reg.inh_cons ⟨.agg #[.int .i64 0, .int .i64 0, .int .i64 0], _, _, _, rfl⟩ (Reg.inh_nil))))))))))) ?_ ?_
      · exact hid ⟨hs.drew, grownBy_drew hG, keepC (Below.refl _ _).drew dr00, keepF (Below.refl _ _).drew dr00 gr00, keepC (Below.refl _ _).drew dr01, keepF (Below.refl _ _).drew dr01 gr01, keepC (Below.refl _ _).drew dr02, keepF (Below.refl _ _).drew dr02 gr02, keepC (Below.refl _ _).drew dr10, keepF (Below.refl _ _).drew dr10 gr10, keepC (Below.refl _ _).drew dr11, keepF (Below.refl _ _).drew dr11 gr11, keepC (Below.refl _ _).drew dr12, keepF (Below.refl _ _).drew dr12 gr12, keepC (Below.refl _ _).drew db000, keepC (Below.refl _ _).drew db001, keepC (Below.refl _ _).drew db002, keepC (Below.refl _ _).drew db010, keepF (Below.refl _ _).drew db010 gb010, keepC (Below.refl _ _).drew db011, keepF (Below.refl _ _).drew db011 gb011, keepC (Below.refl _ _).drew db012, keepF (Below.refl _ _).drew db012 gb012⟩
      clear hs hG dr00 gr00 dr01 gr01 dr02 gr02 dr10 gr10 dr11 gr11 dr12 gr12 db000 db001 db002 db010 gb010 db011 gb011 db012 gb012
      simp only [List.take_succ_cons, List.take_zero, List.drop_succ_cons, List.drop_zero]
      refine Reg.wpSq_val (fun wq hq => ?gs3x0) ?ks3x0
      case gs3x0 => (obtain ⟨hs, hG, dr00, gr00, dr01, gr01, dr02, gr02, dr10, gr10, dr11, gr11, dr12, gr12, db000, db001, db002, db010, gb010, db011, gb011, db012, gb012⟩ := hq.out; go_simp; first | done | (with_reducible rfl) | rfl)
      try simp only [Act.put, List.setIfInBounds_toArray, List.set_cons_zero, List.set_cons_succ]
      refine Reg.wpSq_val (fun wq hq => ?gs3x1) ?ks3x1
      case gs3x1 => (obtain ⟨hs, hG, dr00, gr00, dr01, gr01, dr02, gr02, dr10, gr10, dr11, gr11, dr12, gr12, db000, db001, db002, db010, gb010, db011, gb011, db012, gb012⟩ := hq.out; go_simp; first | done | (with_reducible rfl) | rfl)
      try simp only [Act.put, List.setIfInBounds_toArray, List.set_cons_zero, List.set_cons_succ]
      refine Reg.wpSq_val (fun wq hq => ?gs3x2) ?ks3x2
      case gs3x2 => (obtain ⟨hs, hG, dr00, gr00, dr01, gr01, dr02, gr02, dr10, gr10, dr11, gr11, dr12, gr12, db000, db001, db002, db010, gb010, db011, gb011, db012, gb012⟩ := hq.out; go_simp; first | done | (with_reducible rfl) | rfl)
      try simp only [Act.put, List.setIfInBounds_toArray, List.set_cons_zero, List.set_cons_succ]
      refine Reg.wpSq_val (fun wq hq => ?gs3x3) ?ks3x3
      case gs3x3 => (obtain ⟨hs, hG, dr00, gr00, dr01, gr01, dr02, gr02, dr10, gr10, dr11, gr11, dr12, gr12, db000, db001, db002, db010, gb010, db011, gb011, db012, gb012⟩ := hq.out; go_simp; first | done | (with_reducible rfl) | rfl)
      try simp only [Act.put, List.setIfInBounds_toArray, List.set_cons_zero, List.set_cons_succ]
      refine Reg.wpSq_val (fun wq hq => ?gs3x4) ?ks3x4
      case gs3x4 => (obtain ⟨hs, hG, dr00, gr00, dr01, gr01, dr02, gr02, dr10, gr10, dr11, gr11, dr12, gr12, db000, db001, db002, db010, gb010, db011, gb011, db012, gb012⟩ := hq.out; go_simp; first | done | (with_reducible rfl) | rfl)
      try simp only [Act.put, List.setIfInBounds_toArray, List.set_cons_zero, List.set_cons_succ]
      refine Reg.wpSq_val (fun wq hq => ?gs3x5) ?ks3x5
      case gs3x5 => (obtain ⟨hs, hG, dr00, gr00, dr01, gr01, dr02, gr02, dr10, gr10, dr11, gr11, dr12, gr12, db000, db001, db002, db010, gb010, db011, gb011, db012, gb012⟩ := hq.out; go_simp; first | done | (with_reducible rfl) | rfl)
      try simp only [Act.put, List.setIfInBounds_toArray, List.set_cons_zero, List.set_cons_succ]
      refine Reg.wpSq_val (fun wq hq => ?gs3x6) ?ks3x6
      case gs3x6 => (obtain ⟨hs, hG, dr00, gr00, dr01, gr01, dr02, gr02, dr10, gr10, dr11, gr11, dr12, gr12, db000, db001, db002, db010, gb010, db011, gb011, db012, gb012⟩ := hq.out; go_simp; first | done | (with_reducible rfl) | rfl)
      try simp only [Act.put, List.setIfInBounds_toArray, List.set_cons_zero, List.set_cons_succ]
      refine Reg.wpSq_val (fun wq hq => ?gs3x7) ?ks3x7
      case gs3x7 => (obtain ⟨hs, hG, dr00, gr00, dr01, gr01, dr02, gr02, dr10, gr10, dr11, gr11, dr12, gr12, db000, db001, db002, db010, gb010, db011, gb011, db012, gb012⟩ := hq.out; go_simp; first | done | (with_reducible rfl) | rfl)
      try simp only [Act.put, List.setIfInBounds_toArray, List.set_cons_zero, List.set_cons_succ]
      refine Reg.wpSq_step (fun wq hq => ?gs3x8) ?ks3x8
      case gs3x8 =>
        obtain ⟨hs, hG, dr00, gr00, dr01, gr01, dr02, gr02, dr10, gr10, dr11, gr11, dr12, gr12, db000, db001, db002, db010, gb010, db011, gb011, db012, gb012⟩ := hq.out
        refine Reg.sAt_call (f := 97) (args := #[.pointer (some ⟨bs, 0, none⟩), .int .i64 p]) (by go_simp) ?_
        refine (next_any p B bs v _ hs).mono ?_
        rintro e w' ⟨⟨q9, rfl, hq9, hq8, _⟩, hs', hG'⟩
        replace gr00 := frozenG hG' dr00 (by dsimp only <;> omega) gr00
        replace gr01 := frozenG hG' dr01 (by dsimp only <;> omega) gr01
        replace gr02 := frozenG hG' dr02 (by dsimp only <;> omega) gr02
        replace gr10 := frozenG hG' dr10 (by dsimp only <;> omega) gr10
        replace gr11 := frozenG hG' dr11 (by dsimp only <;> omega) gr11
        replace gr12 := frozenG hG' dr12 (by dsimp only <;> omega) gr12
        replace gb010 := frozenG hG' db010 (by dsimp only <;> omega) gb010
        replace gb011 := frozenG hG' db011 (by dsimp only <;> omega) gb011
        replace gb012 := frozenG hG' db012 (by dsimp only <;> omega) gb012
        replace dr00 := cellG hG' dr00 (by dsimp only <;> omega)
        replace dr01 := cellG hG' dr01 (by dsimp only <;> omega)
        replace dr02 := cellG hG' dr02 (by dsimp only <;> omega)
        replace dr10 := cellG hG' dr10 (by dsimp only <;> omega)
        replace dr11 := cellG hG' dr11 (by dsimp only <;> omega)
        replace dr12 := cellG hG' dr12 (by dsimp only <;> omega)
        replace db000 := cellG hG' db000 (by dsimp only <;> omega)
        replace db001 := cellG hG' db001 (by dsimp only <;> omega)
        replace db002 := cellG hG' db002 (by dsimp only <;> omega)
        replace db010 := cellG hG' db010 (by dsimp only <;> omega)
        replace db011 := cellG hG' db011 (by dsimp only <;> omega)
        replace db012 := cellG hG' db012 (by dsimp only <;> omega)
        replace hs := hs'
        replace hG := grownBy_trans hG hG'
        clear hs' hG'
        exact ⟨_, rfl, ⟨_, rfl, hq9, hq8 (by omega)⟩, hid ⟨hs, hG, dr00, gr00, dr01, gr01, dr02, gr02, dr10, gr10, dr11, gr11, dr12, gr12, db000, db001, db002, db010, gb010, db011, gb011, db012, gb012⟩⟩
      rintro _ ⟨t, rfl, t1, t2⟩
      try simp only [Act.put, List.setIfInBounds_toArray, List.set_cons_zero, List.set_cons_succ]
      refine Reg.wpSq_step (fun wq hq => ?gs3x9) ?ks3x9
      case gs3x9 =>
        obtain ⟨hs, hG, dr00, gr00, dr01, gr01, dr02, gr02, dr10, gr10, dr11, gr11, dr12, gr12, db000, db001, db002, db010, gb010, db011, gb011, db012, gb012⟩ := hq.out
        refine Reg.sAt_call (f := 136) (args := #[.int .i64 p, .int .i64 (-lb), .int .i64 la, .int .i64 t]) (by go_simp) ?_
        refine (l01Normal_any p (-lb) la t _ hf (by omega) (by omega) (by omega) (by omega) (by omega) (by omega)).mono ?_
        rintro e w' ⟨rfl, hbn⟩
        replace gr00 := keepF hbn dr00 gr00
        replace gr01 := keepF hbn dr01 gr01
        replace gr02 := keepF hbn dr02 gr02
        replace gr10 := keepF hbn dr10 gr10
        replace gr11 := keepF hbn dr11 gr11
        replace gr12 := keepF hbn dr12 gr12
        replace gb010 := keepF hbn db010 gb010
        replace gb011 := keepF hbn db011 gb011
        replace gb012 := keepF hbn db012 gb012
        replace dr00 := keepC hbn dr00
        replace dr01 := keepC hbn dr01
        replace dr02 := keepC hbn dr02
        replace dr10 := keepC hbn dr10
        replace dr11 := keepC hbn dr11
        replace dr12 := keepC hbn dr12
        replace db000 := keepC hbn db000
        replace db001 := keepC hbn db001
        replace db002 := keepC hbn db002
        replace db010 := keepC hbn db010
        replace db011 := keepC hbn db011
        replace db012 := keepC hbn db012
        replace hs := hs.keep hbn
        replace hG := grownBy_trans hG (grown_below hbn)
        clear hbn
        exact ⟨_, rfl, ⟨_, _, _, rfl⟩, hid ⟨hs, hG, dr00, gr00, dr01, gr01, dr02, gr02, dr10, gr10, dr11, gr11, dr12, gr12, db000, db001, db002, db010, gb010, db011, gb011, db012, gb012⟩⟩
      rintro _ ⟨ea, eb, ec, rfl⟩
      try simp only [Act.put, List.setIfInBounds_toArray, List.set_cons_zero, List.set_cons_succ]
      intro w2 hq
      obtain ⟨hs, hG, dr00, gr00, dr01, gr01, dr02, gr02, dr10, gr10, dr11, gr11, dr12, gr12, db000, db001, db002, db010, gb010, db011, gb011, db012, gb012⟩ := hq.out
      clear hq
      change wpList _ _ _ _ _ _
      go_wp2_with fail
      generalize hW : (World.setCell (World.setCell (World.setCell w2 ⟨r_0 + 1, 0, none⟩ (.int .i64 ea)) ⟨r_0 + 1, 1, none⟩ (.int .i64 eb)) ⟨r_0 + 1, 2, none⟩ (.int .i64 ec)) = W4
      have hP : ∀ k, k ≠ r_0 + 1 → W4.heap[k]? = w2.heap[k]? := by subst hW; exact put3_heap _ _ _ _ _
      have hZ : W4.heap.size = w2.heap.size := by subst hW; exact put3_size _ _ _ _ _
      have ndb010 : W4.cell? ⟨r_0 + 1, 0, none⟩ = some (.int .i64 ea) := by subst hW; simp [World.cell?_setCell_other, World.cell?_setCell_same, db010, db011, db012]
      have ndb011 : W4.cell? ⟨r_0 + 1, 1, none⟩ = some (.int .i64 eb) := by subst hW; simp [World.cell?_setCell_other, World.cell?_setCell_same, db010, db011, db012]
      have ndb012 : W4.cell? ⟨r_0 + 1, 2, none⟩ = some (.int .i64 ec) := by subst hW; simp [World.cell?_setCell_other, World.cell?_setCell_same, db010, db011, db012]
      have ngb010 : W4.frozen? ⟨r_0 + 1, 0, none⟩ = false := by subst hW; simp [gb010]
      have ngb011 : W4.frozen? ⟨r_0 + 1, 1, none⟩ = false := by subst hW; simp [gb011]
      have ngb012 : W4.frozen? ⟨r_0 + 1, 2, none⟩ = false := by subst hW; simp [gb012]
      have hG2 : w.grownBy W4 (some bs) := by subst hW; exact grown_put3 hG (by omega) _ _ _
      replace hs := hs.put hP hZ (by omega) (by omega)
      replace hG := hG2
      clear hG2
      replace dr00 := cellP hP dr00 (by dsimp only <;> omega)
      replace gr00 := frozenP hP gr00 (by dsimp only <;> omega)
      replace dr01 := cellP hP dr01 (by dsimp only <;> omega)
      replace gr01 := frozenP hP gr01 (by dsimp only <;> omega)
      replace dr02 := cellP hP dr02 (by dsimp only <;> omega)
      replace gr02 := frozenP hP gr02 (by dsimp only <;> omega)
      replace dr10 := cellP hP dr10 (by dsimp only <;> omega)
      replace gr10 := frozenP hP gr10 (by dsimp only <;> omega)
      replace dr11 := cellP hP dr11 (by dsimp only <;> omega)
      replace gr11 := frozenP hP gr11 (by dsimp only <;> omega)
      replace dr12 := cellP hP dr12 (by dsimp only <;> omega)
      replace gr12 := frozenP hP gr12 (by dsimp only <;> omega)
      replace db000 := cellP hP db000 (by dsimp only <;> omega)
      replace db001 := cellP hP db001 (by dsimp only <;> omega)
      replace db002 := cellP hP db002 (by dsimp only <;> omega)
      replace db010 := ndb010
      clear ndb010
      replace gb010 := ngb010
      clear ngb010
      replace db011 := ndb011
      clear ndb011
      replace gb011 := ngb011
      clear ngb011
      replace db012 := ndb012
      clear ndb012
      replace gb012 := ngb012
      clear ngb012
      clear hP hZ hW
      go_wp2_with fail
      have h_r0 : Res3 _ (w.heap.size) := ⟨World.block_lt_of_cell? _ _ dr00, ⟨_, dr00⟩, ⟨_, dr01⟩, ⟨_, dr02⟩, fun j hj => by match j, hj with | 0, _ => exact gr00 | 1, _ => exact gr01 | 2, _ => exact gr02⟩
      have h_r1 : Res3 _ (w.heap.size + 1) := ⟨World.block_lt_of_cell? _ _ dr10, ⟨_, dr10⟩, ⟨_, dr11⟩, ⟨_, dr12⟩, fun j hj => by match j, hj with | 0, _ => exact gr10 | 1, _ => exact gr11 | 2, _ => exact gr12⟩
      clear dr00 gr00 dr01 gr01 dr02 gr02 dr10 gr10 dr11 gr11 dr12 gr12
      refine Reg.wp_region_steps7 (by kernel_rfl) 16 (by kernel_rfl) (fun wq => Hid (Src wq B bs v ∧ w.grownBy wq (some bs) ∧ wq.cell? ⟨r_0, 0, none⟩ = some (.int .i64 la) ∧ wq.cell? ⟨r_0, 1, none⟩ = some (.int .i64 lb) ∧ wq.cell? ⟨r_0, 2, none⟩ = some (.int .i64 lc) ∧ wq.cell? ⟨r_0 + 1, 0, none⟩ = some (.int .i64 ea) ∧ wq.frozen? ⟨r_0 + 1, 0, none⟩ = false ∧ wq.cell? ⟨r_0 + 1, 1, none⟩ = some (.int .i64 eb) ∧ wq.frozen? ⟨r_0 + 1, 1, none⟩ = false ∧ wq.cell? ⟨r_0 + 1, 2, none⟩ = some (.int .i64 ec) ∧ wq.frozen? ⟨r_0 + 1, 2, none⟩ = false ∧ Res3 wq (w.heap.size) ∧ Res3 wq (w.heap.size + 1))) [(fun v => v = .pointer (some ⟨bs, 0, none⟩)), (fun v => v = .int .i64 p), IsI, (fun v => v = .int .i64 k), (fun v => v = .pointer (some ⟨bs, 0, none⟩)), (fun v => v = .int .i64 p), (fun v => v = .agg #[.int .i64 la, .int .i64 lb, .int .i64 lc]), IsL, (fun v => v = .pointer (some ⟨bs, 0, none⟩)), (fun v => v = .int .i64 p), (fun v => v = .agg #[.int .i64 ea, .int .i64 eb, .int .i64 ec]), IsL, IsI, (fun v => v = .int .i64 k), Reg.anyV, Reg.anyV] (Reg.inh_cons ⟨_, rfl⟩ (Reg.inh_cons ⟨_, rfl⟩ (Reg.inh_cons ⟨.int .i64 0, _, rfl⟩ (Reg.inh_cons ⟨_, rfl⟩ (Reg.inh_cons ⟨_, rfl⟩ (Reg.inh_cons ⟨_, rfl⟩ (Reg.inh_cons ⟨_, rfl⟩ (Reg.inh_cons ⟨.agg #[.int .i64 0, .int .i64 0, .int .i64 0], _, _, _, rfl⟩ (Reg.inh_cons ⟨_, rfl⟩ (Reg.inh_cons ⟨_, rfl⟩ (Reg.inh_cons ⟨_, rfl⟩ (Reg.inh_cons ⟨.agg #[.int .i64 0, .int .i64 0, .int .i64 0], _, _, _, rfl⟩ (Reg.inh_cons ⟨.int .i64 0, _, rfl⟩ (Reg.inh_cons ⟨_, rfl⟩ (Reg.inh_cons ⟨undef, trivial⟩ (Reg.inh_cons ⟨undef, trivial⟩ (Reg.inh_nil))))))))))))))))) ?_ ?_
      · exact hid ⟨hs.drew, grownBy_drew hG, keepC (Below.refl _ _).drew db000, keepC (Below.refl _ _).drew db001, keepC (Below.refl _ _).drew db002, keepC (Below.refl _ _).drew db010, keepF (Below.refl _ _).drew db010 gb010, keepC (Below.refl _ _).drew db011, keepF (Below.refl _ _).drew db011 gb011, keepC (Below.refl _ _).drew db012, keepF (Below.refl _ _).drew db012 gb012, h_r0.keep (Below.refl _ _).drew, h_r1.keep (Below.refl _ _).drew⟩
      clear hs hG db000 db001 db002 db010 gb010 db011 gb011 db012 gb012 h_r0 h_r1
      simp only [List.take_succ_cons, List.take_zero, List.drop_succ_cons, List.drop_zero]
      refine Reg.wpS7_val (fun wq hq => ?gs4x0) ?ks4x0
      case gs4x0 => (obtain ⟨hs, hG, db000, db001, db002, db010, gb010, db011, gb011, db012, gb012, h_r0, h_r1⟩ := hq.out; go_simp; first | done | (with_reducible rfl) | rfl)
      try simp only [Act.put, List.setIfInBounds_toArray, List.set_cons_zero, List.set_cons_succ]
      refine Reg.wpS7_val (fun wq hq => ?gs4x1) ?ks4x1
      case gs4x1 => (obtain ⟨hs, hG, db000, db001, db002, db010, gb010, db011, gb011, db012, gb012, h_r0, h_r1⟩ := hq.out; go_simp; first | done | (with_reducible rfl) | rfl)
      try simp only [Act.put, List.setIfInBounds_toArray, List.set_cons_zero, List.set_cons_succ]
      refine Reg.wpS7_step (fun wq hq => ?gs4x2) ?ks4x2
      case gs4x2 =>
        obtain ⟨hs, hG, db000, db001, db002, db010, gb010, db011, gb011, db012, gb012, h_r0, h_r1⟩ := hq.out
        refine Reg.sAt7_call (f := 99) (args := #[.pointer (some ⟨bs, 0, none⟩), .int .i64 p]) (by go_simp) ?_
        refine (badField_any _ B bs v _ hs).mono ?_
        rintro e w' ⟨⟨q0, rfl⟩, hs', hG'⟩
        replace h_r0 := h_r0.grown hG' (by omega)
        replace h_r1 := h_r1.grown hG' (by omega)
        replace gb010 := frozenG hG' db010 (by dsimp only <;> omega) gb010
        replace gb011 := frozenG hG' db011 (by dsimp only <;> omega) gb011
        replace gb012 := frozenG hG' db012 (by dsimp only <;> omega) gb012
        replace db000 := cellG hG' db000 (by dsimp only <;> omega)
        replace db001 := cellG hG' db001 (by dsimp only <;> omega)
        replace db002 := cellG hG' db002 (by dsimp only <;> omega)
        replace db010 := cellG hG' db010 (by dsimp only <;> omega)
        replace db011 := cellG hG' db011 (by dsimp only <;> omega)
        replace db012 := cellG hG' db012 (by dsimp only <;> omega)
        replace hs := hs'
        replace hG := grownBy_trans hG hG'
        clear hs' hG'
        exact ⟨_, rfl, ⟨_, rfl⟩, hid ⟨hs, hG, db000, db001, db002, db010, gb010, db011, gb011, db012, gb012, h_r0, h_r1⟩⟩
      rintro _ ⟨uf, rfl⟩
      try simp only [Act.put, List.setIfInBounds_toArray, List.set_cons_zero, List.set_cons_succ]
      refine Reg.wpS7_val (fun wq hq => ?gs4x3) ?ks4x3
      case gs4x3 => (obtain ⟨hs, hG, db000, db001, db002, db010, gb010, db011, gb011, db012, gb012, h_r0, h_r1⟩ := hq.out; go_simp; first | done | (with_reducible rfl) | rfl)
      try simp only [Act.put, List.setIfInBounds_toArray, List.set_cons_zero, List.set_cons_succ]
      refine Reg.wpS7_val (fun wq hq => ?gs4x4) ?ks4x4
      case gs4x4 => (obtain ⟨hs, hG, db000, db001, db002, db010, gb010, db011, gb011, db012, gb012, h_r0, h_r1⟩ := hq.out; go_simp; first | done | (with_reducible rfl) | rfl)
      try simp only [Act.put, List.setIfInBounds_toArray, List.set_cons_zero, List.set_cons_succ]
      refine Reg.wpS7_val (fun wq hq => ?gs4x5) ?ks4x5
      case gs4x5 => (obtain ⟨hs, hG, db000, db001, db002, db010, gb010, db011, gb011, db012, gb012, h_r0, h_r1⟩ := hq.out; go_simp; first | done | (with_reducible rfl) | rfl)
      try simp only [Act.put, List.setIfInBounds_toArray, List.set_cons_zero, List.set_cons_succ]
      refine Reg.wpS7_val (fun wq hq => ?gs4x6) ?ks4x6
      case gs4x6 => (obtain ⟨hs, hG, db000, db001, db002, db010, gb010, db011, gb011, db012, gb012, h_r0, h_r1⟩ := hq.out; go_simp; first | done | (with_reducible rfl) | rfl)
      try simp only [Act.put, List.setIfInBounds_toArray, List.set_cons_zero, List.set_cons_succ]
      refine Reg.wpS7_step (fun wq hq => ?gs4x7) ?ks4x7
      case gs4x7 =>
        obtain ⟨hs, hG, db000, db001, db002, db010, gb010, db011, gb011, db012, gb012, h_r0, h_r1⟩ := hq.out
        refine Reg.sAt7_call (f := 143) (args := #[.pointer (some ⟨bs, 0, none⟩), .int .i64 p, .agg #[.int .i64 la, .int .i64 lb, .int .i64 lc]]) (by go_simp) ?_
        refine (badLine_any _ _ _ _ B bs v _ hs).mono ?_
        rintro e w' ⟨⟨q0, q1, q2, rfl⟩, hs', hG'⟩
        replace h_r0 := h_r0.grown hG' (by omega)
        replace h_r1 := h_r1.grown hG' (by omega)
        replace gb010 := frozenG hG' db010 (by dsimp only <;> omega) gb010
        replace gb011 := frozenG hG' db011 (by dsimp only <;> omega) gb011
        replace gb012 := frozenG hG' db012 (by dsimp only <;> omega) gb012
        replace db000 := cellG hG' db000 (by dsimp only <;> omega)
        replace db001 := cellG hG' db001 (by dsimp only <;> omega)
        replace db002 := cellG hG' db002 (by dsimp only <;> omega)
        replace db010 := cellG hG' db010 (by dsimp only <;> omega)
        replace db011 := cellG hG' db011 (by dsimp only <;> omega)
        replace db012 := cellG hG' db012 (by dsimp only <;> omega)
        replace hs := hs'
        replace hG := grownBy_trans hG hG'
        clear hs' hG'
        exact ⟨_, rfl, ⟨_, _, _, rfl⟩, hid ⟨hs, hG, db000, db001, db002, db010, gb010, db011, gb011, db012, gb012, h_r0, h_r1⟩⟩
      rintro _ ⟨ua, ub, uc, rfl⟩
      try simp only [Act.put, List.setIfInBounds_toArray, List.set_cons_zero, List.set_cons_succ]
      refine Reg.wpS7_val (fun wq hq => ?gs4x8) ?ks4x8
      case gs4x8 => (obtain ⟨hs, hG, db000, db001, db002, db010, gb010, db011, gb011, db012, gb012, h_r0, h_r1⟩ := hq.out; go_simp; first | done | (with_reducible rfl) | rfl)
      try simp only [Act.put, List.setIfInBounds_toArray, List.set_cons_zero, List.set_cons_succ]
      refine Reg.wpS7_val (fun wq hq => ?gs4x9) ?ks4x9
      case gs4x9 => (obtain ⟨hs, hG, db000, db001, db002, db010, gb010, db011, gb011, db012, gb012, h_r0, h_r1⟩ := hq.out; go_simp; first | done | (with_reducible rfl) | rfl)
      try simp only [Act.put, List.setIfInBounds_toArray, List.set_cons_zero, List.set_cons_succ]
      refine Reg.wpS7_val (fun wq hq => ?gs4x10) ?ks4x10
      case gs4x10 => (obtain ⟨hs, hG, db000, db001, db002, db010, gb010, db011, gb011, db012, gb012, h_r0, h_r1⟩ := hq.out; go_simp; first | done | (with_reducible rfl) | rfl)
      try simp only [Act.put, List.setIfInBounds_toArray, List.set_cons_zero, List.set_cons_succ]
      refine Reg.wpS7_step (fun wq hq => ?gs4x11) ?ks4x11
      case gs4x11 =>
        obtain ⟨hs, hG, db000, db001, db002, db010, gb010, db011, gb011, db012, gb012, h_r0, h_r1⟩ := hq.out
        refine Reg.sAt7_call (f := 143) (args := #[.pointer (some ⟨bs, 0, none⟩), .int .i64 p, .agg #[.int .i64 ea, .int .i64 eb, .int .i64 ec]]) (by go_simp) ?_
        refine (badLine_any _ _ _ _ B bs v _ hs).mono ?_
        rintro e w' ⟨⟨q0, q1, q2, rfl⟩, hs', hG'⟩
        replace h_r0 := h_r0.grown hG' (by omega)
        replace h_r1 := h_r1.grown hG' (by omega)
        replace gb010 := frozenG hG' db010 (by dsimp only <;> omega) gb010
        replace gb011 := frozenG hG' db011 (by dsimp only <;> omega) gb011
        replace gb012 := frozenG hG' db012 (by dsimp only <;> omega) gb012
        replace db000 := cellG hG' db000 (by dsimp only <;> omega)
        replace db001 := cellG hG' db001 (by dsimp only <;> omega)
        replace db002 := cellG hG' db002 (by dsimp only <;> omega)
        replace db010 := cellG hG' db010 (by dsimp only <;> omega)
        replace db011 := cellG hG' db011 (by dsimp only <;> omega)
        replace db012 := cellG hG' db012 (by dsimp only <;> omega)
        replace hs := hs'
        replace hG := grownBy_trans hG hG'
        clear hs' hG'
        exact ⟨_, rfl, ⟨_, _, _, rfl⟩, hid ⟨hs, hG, db000, db001, db002, db010, gb010, db011, gb011, db012, gb012, h_r0, h_r1⟩⟩
      rintro _ ⟨xa, xb, xc, rfl⟩
      try simp only [Act.put, List.setIfInBounds_toArray, List.set_cons_zero, List.set_cons_succ]
      refine Reg.wpS7_step (fun wq hq => ?gs4x12) ?ks4x12
      case gs4x12 => exact Reg.sAt7_val (v := .int .i64 uf) (by go_simp; first | done | rfl) ⟨_, rfl⟩ hq
      rintro _ ⟨uf2, rfl⟩
      try simp only [Act.put, List.setIfInBounds_toArray, List.set_cons_zero, List.set_cons_succ]
      refine Reg.wpS7_val (fun wq hq => ?gs4x13) ?ks4x13
      case gs4x13 => (obtain ⟨hs, hG, db000, db001, db002, db010, gb010, db011, gb011, db012, gb012, h_r0, h_r1⟩ := hq.out; go_simp; first | done | (with_reducible rfl) | rfl)
      try simp only [Act.put, List.setIfInBounds_toArray, List.set_cons_zero, List.set_cons_succ]
      refine Reg.wpS7_skip rfl (fun wq hq => ?gs4x14) ?ks4x14
      case gs4x14 =>
        obtain ⟨hs, hG, db000, db001, db002, db010, gb010, db011, gb011, db012, gb012, h_r0, h_r1⟩ := hq.out
        have hres := h_r0
        obtain ⟨_, ⟨x0, cc0⟩, ⟨x1, cc1⟩, ⟨x2, cc2⟩, hz⟩ := h_r0
        have ff0 := hz 0 (by omega)
        have ff1 := hz 1 (by omega)
        have ff2 := hz 2 (by omega)
        exact ⟨put3 wq (w.heap.size) (ua) (ub) (uc), by unfold put3; go_simp, hid ⟨hs.put (put3_heap _ _ _ _ _) (put3_size _ _ _ _ _) (by omega) (by omega), grown_put3 hG (by omega) _ _ _, cellP (put3_heap _ _ _ _ _) db000 (by dsimp only <;> omega), cellP (put3_heap _ _ _ _ _) db001 (by dsimp only <;> omega), cellP (put3_heap _ _ _ _ _) db002 (by dsimp only <;> omega), cellP (put3_heap _ _ _ _ _) db010 (by dsimp only <;> omega), frozenP (put3_heap _ _ _ _ _) gb010 (by dsimp only <;> omega), cellP (put3_heap _ _ _ _ _) db011 (by dsimp only <;> omega), frozenP (put3_heap _ _ _ _ _) gb011 (by dsimp only <;> omega), cellP (put3_heap _ _ _ _ _) db012 (by dsimp only <;> omega), frozenP (put3_heap _ _ _ _ _) gb012 (by dsimp only <;> omega), hres.put _ _ _, h_r1.heap (by rw [put3_size]; exact Nat.le_refl _) (put3_heap _ _ _ _ _ _ (by omega))⟩⟩
      try simp only [Act.put, List.setIfInBounds_toArray, List.set_cons_zero, List.set_cons_succ]
      refine Reg.wpS7_skip rfl (fun wq hq => ?gs4x15) ?ks4x15
      case gs4x15 =>
        obtain ⟨hs, hG, db000, db001, db002, db010, gb010, db011, gb011, db012, gb012, h_r0, h_r1⟩ := hq.out
        have hres := h_r1
        obtain ⟨_, ⟨x0, cc0⟩, ⟨x1, cc1⟩, ⟨x2, cc2⟩, hz⟩ := h_r1
        have ff0 := hz 0 (by omega)
        have ff1 := hz 1 (by omega)
        have ff2 := hz 2 (by omega)
        exact ⟨put3 wq (w.heap.size + 1) (xa) (xb) (xc), by unfold put3; go_simp, hid ⟨hs.put (put3_heap _ _ _ _ _) (put3_size _ _ _ _ _) (by omega) (by omega), grown_put3 hG (by omega) _ _ _, cellP (put3_heap _ _ _ _ _) db000 (by dsimp only <;> omega), cellP (put3_heap _ _ _ _ _) db001 (by dsimp only <;> omega), cellP (put3_heap _ _ _ _ _) db002 (by dsimp only <;> omega), cellP (put3_heap _ _ _ _ _) db010 (by dsimp only <;> omega), frozenP (put3_heap _ _ _ _ _) gb010 (by dsimp only <;> omega), cellP (put3_heap _ _ _ _ _) db011 (by dsimp only <;> omega), frozenP (put3_heap _ _ _ _ _) gb011 (by dsimp only <;> omega), cellP (put3_heap _ _ _ _ _) db012 (by dsimp only <;> omega), frozenP (put3_heap _ _ _ _ _) gb012 (by dsimp only <;> omega), h_r0.heap (by rw [put3_size]; exact Nat.le_refl _) (put3_heap _ _ _ _ _ _ (by omega)), hres.put _ _ _⟩⟩
      try simp only [Act.put, List.setIfInBounds_toArray, List.set_cons_zero, List.set_cons_succ]
      intro w2 hq
      obtain ⟨hs, hG, db000, db001, db002, db010, gb010, db011, gb011, db012, gb012, h_r0, h_r1⟩ := hq.out
      clear hq
      change wpList _ _ _ _ _ _
      obtain ⟨_, ⟨x00, cr00⟩, ⟨x01, cr01⟩, ⟨x02, cr02⟩, _⟩ := h_r0
      obtain ⟨_, ⟨x10, cr10⟩, ⟨x11, cr11⟩, ⟨x12, cr12⟩, _⟩ := h_r1
      go_wp2_with fail
      try simp only [Exit.inBlock, Exit.then]
      refine bodyPost_ret (by simp [results, Try.results62, go_sem, cr00, cr01, cr02, cr10, cr11, cr12]; try rfl) rfl ?_
      exact ⟨⟨_, _, _, _, _, _, _, _, rfl⟩, by have hBf := below_grown (Below.refl w.heap.size w) hG (by omega) (by omega); first | exact hBf | (rw [hbs]; exact hBf) | go_grown⟩
    · go_wp2_with fail
      have h_r0 : Res3 _ (w.heap.size) := ⟨World.block_lt_of_cell? _ _ dr00, ⟨_, dr00⟩, ⟨_, dr01⟩, ⟨_, dr02⟩, fun j hj => by match j, hj with | 0, _ => exact gr00 | 1, _ => exact gr01 | 2, _ => exact gr02⟩
      have h_r1 : Res3 _ (w.heap.size + 1) := ⟨World.block_lt_of_cell? _ _ dr10, ⟨_, dr10⟩, ⟨_, dr11⟩, ⟨_, dr12⟩, fun j hj => by match j, hj with | 0, _ => exact gr10 | 1, _ => exact gr11 | 2, _ => exact gr12⟩
      clear dr00 gr00 dr01 gr01 dr02 gr02 dr10 gr10 dr11 gr11 dr12 gr12
      refine Reg.wp_region_steps7 (by kernel_rfl) 16 (by kernel_rfl) (fun wq => Hid (Src wq B bs v ∧ w.grownBy wq (some bs) ∧ wq.cell? ⟨r_0, 0, none⟩ = some (.int .i64 la) ∧ wq.cell? ⟨r_0, 1, none⟩ = some (.int .i64 lb) ∧ wq.cell? ⟨r_0, 2, none⟩ = some (.int .i64 lc) ∧ wq.cell? ⟨r_0 + 1, 0, none⟩ = some (.int .i64 ma) ∧ wq.frozen? ⟨r_0 + 1, 0, none⟩ = false ∧ wq.cell? ⟨r_0 + 1, 1, none⟩ = some (.int .i64 mb) ∧ wq.frozen? ⟨r_0 + 1, 1, none⟩ = false ∧ wq.cell? ⟨r_0 + 1, 2, none⟩ = some (.int .i64 mc) ∧ wq.frozen? ⟨r_0 + 1, 2, none⟩ = false ∧ Res3 wq (w.heap.size) ∧ Res3 wq (w.heap.size + 1))) [(fun v => v = .pointer (some ⟨bs, 0, none⟩)), (fun v => v = .int .i64 p), IsI, (fun v => v = .int .i64 k), (fun v => v = .pointer (some ⟨bs, 0, none⟩)), (fun v => v = .int .i64 p), (fun v => v = .agg #[.int .i64 la, .int .i64 lb, .int .i64 lc]), IsL, (fun v => v = .pointer (some ⟨bs, 0, none⟩)), (fun v => v = .int .i64 p), (fun v => v = .agg #[.int .i64 ma, .int .i64 mb, .int .i64 mc]), IsL, IsI, (fun v => v = .int .i64 k), Reg.anyV, Reg.anyV] (Reg.inh_cons ⟨_, rfl⟩ (Reg.inh_cons ⟨_, rfl⟩ (Reg.inh_cons ⟨.int .i64 0, _, rfl⟩ (Reg.inh_cons ⟨_, rfl⟩ (Reg.inh_cons ⟨_, rfl⟩ (Reg.inh_cons ⟨_, rfl⟩ (Reg.inh_cons ⟨_, rfl⟩ (Reg.inh_cons ⟨.agg #[.int .i64 0, .int .i64 0, .int .i64 0], _, _, _, rfl⟩ (Reg.inh_cons ⟨_, rfl⟩ (Reg.inh_cons ⟨_, rfl⟩ (Reg.inh_cons ⟨_, rfl⟩ (Reg.inh_cons ⟨.agg #[.int .i64 0, .int .i64 0, .int .i64 0], _, _, _, rfl⟩ (Reg.inh_cons ⟨.int .i64 0, _, rfl⟩ (Reg.inh_cons ⟨_, rfl⟩ (Reg.inh_cons ⟨undef, trivial⟩ (Reg.inh_cons ⟨undef, trivial⟩ (Reg.inh_nil))))))))))))))))) ?_ ?_
      · exact hid ⟨hs.drew, grownBy_drew hG, keepC (Below.refl _ _).drew db000, keepC (Below.refl _ _).drew db001, keepC (Below.refl _ _).drew db002, keepC (Below.refl _ _).drew db010, keepF (Below.refl _ _).drew db010 gb010, keepC (Below.refl _ _).drew db011, keepF (Below.refl _ _).drew db011 gb011, keepC (Below.refl _ _).drew db012, keepF (Below.refl _ _).drew db012 gb012, h_r0.keep (Below.refl _ _).drew, h_r1.keep (Below.refl _ _).drew⟩
      clear hs hG db000 db001 db002 db010 gb010 db011 gb011 db012 gb012 h_r0 h_r1
      simp only [List.take_succ_cons, List.take_zero, List.drop_succ_cons, List.drop_zero]
      refine Reg.wpS7_val (fun wq hq => ?gs5x0) ?ks5x0
      case gs5x0 => (obtain ⟨hs, hG, db000, db001, db002, db010, gb010, db011, gb011, db012, gb012, h_r0, h_r1⟩ := hq.out; go_simp; first | done | (with_reducible rfl) | rfl)
      try simp only [Act.put, List.setIfInBounds_toArray, List.set_cons_zero, List.set_cons_succ]
      refine Reg.wpS7_val (fun wq hq => ?gs5x1) ?ks5x1
      case gs5x1 => (obtain ⟨hs, hG, db000, db001, db002, db010, gb010, db011, gb011, db012, gb012, h_r0, h_r1⟩ := hq.out; go_simp; first | done | (with_reducible rfl) | rfl)
      try simp only [Act.put, List.setIfInBounds_toArray, List.set_cons_zero, List.set_cons_succ]
      refine Reg.wpS7_step (fun wq hq => ?gs5x2) ?ks5x2
      case gs5x2 =>
        obtain ⟨hs, hG, db000, db001, db002, db010, gb010, db011, gb011, db012, gb012, h_r0, h_r1⟩ := hq.out
        refine Reg.sAt7_call (f := 99) (args := #[.pointer (some ⟨bs, 0, none⟩), .int .i64 p]) (by go_simp) ?_
        refine (badField_any _ B bs v _ hs).mono ?_
        rintro e w' ⟨⟨q0, rfl⟩, hs', hG'⟩
        replace h_r0 := h_r0.grown hG' (by omega)
        replace h_r1 := h_r1.grown hG' (by omega)
        replace gb010 := frozenG hG' db010 (by dsimp only <;> omega) gb010
        replace gb011 := frozenG hG' db011 (by dsimp only <;> omega) gb011
        replace gb012 := frozenG hG' db012 (by dsimp only <;> omega) gb012
        replace db000 := cellG hG' db000 (by dsimp only <;> omega)
        replace db001 := cellG hG' db001 (by dsimp only <;> omega)
        replace db002 := cellG hG' db002 (by dsimp only <;> omega)
        replace db010 := cellG hG' db010 (by dsimp only <;> omega)
        replace db011 := cellG hG' db011 (by dsimp only <;> omega)
        replace db012 := cellG hG' db012 (by dsimp only <;> omega)
        replace hs := hs'
        replace hG := grownBy_trans hG hG'
        clear hs' hG'
        exact ⟨_, rfl, ⟨_, rfl⟩, hid ⟨hs, hG, db000, db001, db002, db010, gb010, db011, gb011, db012, gb012, h_r0, h_r1⟩⟩
      rintro _ ⟨uf, rfl⟩
      try simp only [Act.put, List.setIfInBounds_toArray, List.set_cons_zero, List.set_cons_succ]
      refine Reg.wpS7_val (fun wq hq => ?gs5x3) ?ks5x3
      case gs5x3 => (obtain ⟨hs, hG, db000, db001, db002, db010, gb010, db011, gb011, db012, gb012, h_r0, h_r1⟩ := hq.out; go_simp; first | done | (with_reducible rfl) | rfl)
      try simp only [Act.put, List.setIfInBounds_toArray, List.set_cons_zero, List.set_cons_succ]
      refine Reg.wpS7_val (fun wq hq => ?gs5x4) ?ks5x4
      case gs5x4 => (obtain ⟨hs, hG, db000, db001, db002, db010, gb010, db011, gb011, db012, gb012, h_r0, h_r1⟩ := hq.out; go_simp; first | done | (with_reducible rfl) | rfl)
      try simp only [Act.put, List.setIfInBounds_toArray, List.set_cons_zero, List.set_cons_succ]
      refine Reg.wpS7_val (fun wq hq => ?gs5x5) ?ks5x5
      case gs5x5 => (obtain ⟨hs, hG, db000, db001, db002, db010, gb010, db011, gb011, db012, gb012, h_r0, h_r1⟩ := hq.out; go_simp; first | done | (with_reducible rfl) | rfl)
      try simp only [Act.put, List.setIfInBounds_toArray, List.set_cons_zero, List.set_cons_succ]
      refine Reg.wpS7_val (fun wq hq => ?gs5x6) ?ks5x6
      case gs5x6 => (obtain ⟨hs, hG, db000, db001, db002, db010, gb010, db011, gb011, db012, gb012, h_r0, h_r1⟩ := hq.out; go_simp; first | done | (with_reducible rfl) | rfl)
      try simp only [Act.put, List.setIfInBounds_toArray, List.set_cons_zero, List.set_cons_succ]
      refine Reg.wpS7_step (fun wq hq => ?gs5x7) ?ks5x7
      case gs5x7 =>
        obtain ⟨hs, hG, db000, db001, db002, db010, gb010, db011, gb011, db012, gb012, h_r0, h_r1⟩ := hq.out
        refine Reg.sAt7_call (f := 143) (args := #[.pointer (some ⟨bs, 0, none⟩), .int .i64 p, .agg #[.int .i64 la, .int .i64 lb, .int .i64 lc]]) (by go_simp) ?_
        refine (badLine_any _ _ _ _ B bs v _ hs).mono ?_
        rintro e w' ⟨⟨q0, q1, q2, rfl⟩, hs', hG'⟩
        replace h_r0 := h_r0.grown hG' (by omega)
        replace h_r1 := h_r1.grown hG' (by omega)
        replace gb010 := frozenG hG' db010 (by dsimp only <;> omega) gb010
        replace gb011 := frozenG hG' db011 (by dsimp only <;> omega) gb011
        replace gb012 := frozenG hG' db012 (by dsimp only <;> omega) gb012
        replace db000 := cellG hG' db000 (by dsimp only <;> omega)
        replace db001 := cellG hG' db001 (by dsimp only <;> omega)
        replace db002 := cellG hG' db002 (by dsimp only <;> omega)
        replace db010 := cellG hG' db010 (by dsimp only <;> omega)
        replace db011 := cellG hG' db011 (by dsimp only <;> omega)
        replace db012 := cellG hG' db012 (by dsimp only <;> omega)
        replace hs := hs'
        replace hG := grownBy_trans hG hG'
        clear hs' hG'
        exact ⟨_, rfl, ⟨_, _, _, rfl⟩, hid ⟨hs, hG, db000, db001, db002, db010, gb010, db011, gb011, db012, gb012, h_r0, h_r1⟩⟩
      rintro _ ⟨ua, ub, uc, rfl⟩
      try simp only [Act.put, List.setIfInBounds_toArray, List.set_cons_zero, List.set_cons_succ]
      refine Reg.wpS7_val (fun wq hq => ?gs5x8) ?ks5x8
      case gs5x8 => (obtain ⟨hs, hG, db000, db001, db002, db010, gb010, db011, gb011, db012, gb012, h_r0, h_r1⟩ := hq.out; go_simp; first | done | (with_reducible rfl) | rfl)
      try simp only [Act.put, List.setIfInBounds_toArray, List.set_cons_zero, List.set_cons_succ]
      refine Reg.wpS7_val (fun wq hq => ?gs5x9) ?ks5x9
      case gs5x9 => (obtain ⟨hs, hG, db000, db001, db002, db010, gb010, db011, gb011, db012, gb012, h_r0, h_r1⟩ := hq.out; go_simp; first | done | (with_reducible rfl) | rfl)
      try simp only [Act.put, List.setIfInBounds_toArray, List.set_cons_zero, List.set_cons_succ]
      refine Reg.wpS7_val (fun wq hq => ?gs5x10) ?ks5x10
      case gs5x10 => (obtain ⟨hs, hG, db000, db001, db002, db010, gb010, db011, gb011, db012, gb012, h_r0, h_r1⟩ := hq.out; go_simp; first | done | (with_reducible rfl) | rfl)
      try simp only [Act.put, List.setIfInBounds_toArray, List.set_cons_zero, List.set_cons_succ]
      refine Reg.wpS7_step (fun wq hq => ?gs5x11) ?ks5x11
      case gs5x11 =>
        obtain ⟨hs, hG, db000, db001, db002, db010, gb010, db011, gb011, db012, gb012, h_r0, h_r1⟩ := hq.out
        refine Reg.sAt7_call (f := 143) (args := #[.pointer (some ⟨bs, 0, none⟩), .int .i64 p, .agg #[.int .i64 ma, .int .i64 mb, .int .i64 mc]]) (by go_simp) ?_
        refine (badLine_any _ _ _ _ B bs v _ hs).mono ?_
        rintro e w' ⟨⟨q0, q1, q2, rfl⟩, hs', hG'⟩
        replace h_r0 := h_r0.grown hG' (by omega)
        replace h_r1 := h_r1.grown hG' (by omega)
        replace gb010 := frozenG hG' db010 (by dsimp only <;> omega) gb010
        replace gb011 := frozenG hG' db011 (by dsimp only <;> omega) gb011
        replace gb012 := frozenG hG' db012 (by dsimp only <;> omega) gb012
        replace db000 := cellG hG' db000 (by dsimp only <;> omega)
        replace db001 := cellG hG' db001 (by dsimp only <;> omega)
        replace db002 := cellG hG' db002 (by dsimp only <;> omega)
        replace db010 := cellG hG' db010 (by dsimp only <;> omega)
        replace db011 := cellG hG' db011 (by dsimp only <;> omega)
        replace db012 := cellG hG' db012 (by dsimp only <;> omega)
        replace hs := hs'
        replace hG := grownBy_trans hG hG'
        clear hs' hG'
        exact ⟨_, rfl, ⟨_, _, _, rfl⟩, hid ⟨hs, hG, db000, db001, db002, db010, gb010, db011, gb011, db012, gb012, h_r0, h_r1⟩⟩
      rintro _ ⟨xa, xb, xc, rfl⟩
      try simp only [Act.put, List.setIfInBounds_toArray, List.set_cons_zero, List.set_cons_succ]
      refine Reg.wpS7_step (fun wq hq => ?gs5x12) ?ks5x12
      case gs5x12 => exact Reg.sAt7_val (v := .int .i64 uf) (by go_simp; first | done | rfl) ⟨_, rfl⟩ hq
      rintro _ ⟨uf2, rfl⟩
      try simp only [Act.put, List.setIfInBounds_toArray, List.set_cons_zero, List.set_cons_succ]
      refine Reg.wpS7_val (fun wq hq => ?gs5x13) ?ks5x13
      case gs5x13 => (obtain ⟨hs, hG, db000, db001, db002, db010, gb010, db011, gb011, db012, gb012, h_r0, h_r1⟩ := hq.out; go_simp; first | done | (with_reducible rfl) | rfl)
      try simp only [Act.put, List.setIfInBounds_toArray, List.set_cons_zero, List.set_cons_succ]
      refine Reg.wpS7_skip rfl (fun wq hq => ?gs5x14) ?ks5x14
      case gs5x14 =>
        obtain ⟨hs, hG, db000, db001, db002, db010, gb010, db011, gb011, db012, gb012, h_r0, h_r1⟩ := hq.out
        have hres := h_r0
        obtain ⟨_, ⟨x0, cc0⟩, ⟨x1, cc1⟩, ⟨x2, cc2⟩, hz⟩ := h_r0
        have ff0 := hz 0 (by omega)
        have ff1 := hz 1 (by omega)
        have ff2 := hz 2 (by omega)
        exact ⟨put3 wq (w.heap.size) (ua) (ub) (uc), by unfold put3; go_simp, hid ⟨hs.put (put3_heap _ _ _ _ _) (put3_size _ _ _ _ _) (by omega) (by omega), grown_put3 hG (by omega) _ _ _, cellP (put3_heap _ _ _ _ _) db000 (by dsimp only <;> omega), cellP (put3_heap _ _ _ _ _) db001 (by dsimp only <;> omega), cellP (put3_heap _ _ _ _ _) db002 (by dsimp only <;> omega), cellP (put3_heap _ _ _ _ _) db010 (by dsimp only <;> omega), frozenP (put3_heap _ _ _ _ _) gb010 (by dsimp only <;> omega), cellP (put3_heap _ _ _ _ _) db011 (by dsimp only <;> omega), frozenP (put3_heap _ _ _ _ _) gb011 (by dsimp only <;> omega), cellP (put3_heap _ _ _ _ _) db012 (by dsimp only <;> omega), frozenP (put3_heap _ _ _ _ _) gb012 (by dsimp only <;> omega), hres.put _ _ _, h_r1.heap (by rw [put3_size]; exact Nat.le_refl _) (put3_heap _ _ _ _ _ _ (by omega))⟩⟩
      try simp only [Act.put, List.setIfInBounds_toArray, List.set_cons_zero, List.set_cons_succ]
      refine Reg.wpS7_skip rfl (fun wq hq => ?gs5x15) ?ks5x15
      case gs5x15 =>
        obtain ⟨hs, hG, db000, db001, db002, db010, gb010, db011, gb011, db012, gb012, h_r0, h_r1⟩ := hq.out
        have hres := h_r1
        obtain ⟨_, ⟨x0, cc0⟩, ⟨x1, cc1⟩, ⟨x2, cc2⟩, hz⟩ := h_r1
        have ff0 := hz 0 (by omega)
        have ff1 := hz 1 (by omega)
        have ff2 := hz 2 (by omega)
        exact ⟨put3 wq (w.heap.size + 1) (xa) (xb) (xc), by unfold put3; go_simp, hid ⟨hs.put (put3_heap _ _ _ _ _) (put3_size _ _ _ _ _) (by omega) (by omega), grown_put3 hG (by omega) _ _ _, cellP (put3_heap _ _ _ _ _) db000 (by dsimp only <;> omega), cellP (put3_heap _ _ _ _ _) db001 (by dsimp only <;> omega), cellP (put3_heap _ _ _ _ _) db002 (by dsimp only <;> omega), cellP (put3_heap _ _ _ _ _) db010 (by dsimp only <;> omega), frozenP (put3_heap _ _ _ _ _) gb010 (by dsimp only <;> omega), cellP (put3_heap _ _ _ _ _) db011 (by dsimp only <;> omega), frozenP (put3_heap _ _ _ _ _) gb011 (by dsimp only <;> omega), cellP (put3_heap _ _ _ _ _) db012 (by dsimp only <;> omega), frozenP (put3_heap _ _ _ _ _) gb012 (by dsimp only <;> omega), h_r0.heap (by rw [put3_size]; exact Nat.le_refl _) (put3_heap _ _ _ _ _ _ (by omega)), hres.put _ _ _⟩⟩
      try simp only [Act.put, List.setIfInBounds_toArray, List.set_cons_zero, List.set_cons_succ]
      intro w2 hq
      obtain ⟨hs, hG, db000, db001, db002, db010, gb010, db011, gb011, db012, gb012, h_r0, h_r1⟩ := hq.out
      clear hq
      change wpList _ _ _ _ _ _
      obtain ⟨_, ⟨x00, cr00⟩, ⟨x01, cr01⟩, ⟨x02, cr02⟩, _⟩ := h_r0
      obtain ⟨_, ⟨x10, cr10⟩, ⟨x11, cr11⟩, ⟨x12, cr12⟩, _⟩ := h_r1
      go_wp2_with fail
      try simp only [Exit.inBlock, Exit.then]
      refine bodyPost_ret (by simp [results, Try.results62, go_sem, cr00, cr01, cr02, cr10, cr11, cr12]; try rfl) rfl ?_
      exact ⟨⟨_, _, _, _, _, _, _, _, rfl⟩, by have hBf := below_grown (Below.refl w.heap.size w) hG (by omega) (by omega); first | exact hBf | (rw [hbs]; exact hBf) | go_grown⟩
end Go.Proofs.Ytbjcbbnfgfmllaa
