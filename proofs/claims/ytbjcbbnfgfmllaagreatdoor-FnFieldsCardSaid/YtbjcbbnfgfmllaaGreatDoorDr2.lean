/- Contracts of the draws: fields, points, colours, numbers. -/
import Derived.Test.YtbjcbbnfgfmllaaGreatDoorDr
import Derived.Test.YtbjcbbnfgfmllaaGreatDoorK
set_option linter.unusedVariables false
set_option linter.unusedSimpArgs false
set_option maxHeartbeats 1000000
set_option maxRecDepth 100000
namespace Go.Proofs.YtbjcbbnfgfmllaaGreatDoor
open Go.RowKit
/-- Any number. -/
def AnyInt (e : Ending) : Prop := ∃ r : Int, e = .returned (.int .i64 r)
/-- A point of the plane. -/
def Pt (p : Int) (e : Ending) : Prop := ∃ x y : Int, e = .returned (.agg #[.int .i64 x, .int .i64 y]) ∧ 0 ≤ x ∧ x < p ∧ 0 ≤ y ∧ y < p
def AnyPt (e : Ending) : Prop := ∃ x y : Int, e = .returned (.agg #[.int .i64 x, .int .i64 y])
/-- A line of the plane. -/
def Ln (p : Int) (e : Ending) : Prop := ∃ a b c : Int, e = .returned (.agg #[.int .i64 a, .int .i64 b, .int .i64 c]) ∧ (a = 1 ∨ a = 0 ∧ b = 1) ∧ 0 ≤ b ∧ b < p ∧ 0 ≤ c ∧ c < p
def AnyLn (e : Ending) : Prop := ∃ a b c : Int, e = .returned (.agg #[.int .i64 a, .int .i64 b, .int .i64 c])
theorem grownBy_new {w w1 : World} {row : Option Nat} {g : Nat} (h : w.grownBy w1 row) (hg : w.heap.size ≤ g) (j : Nat) (u : Value) : w.grownBy (w1.setCell ⟨g, j, none⟩ u) row :=
  ⟨h.os, h.tape, h.output, by simpa using h.size, fun k hk hne => (Below.heap_setCell w1 ⟨g, j, none⟩ u k (by show k ≠ g; omega)).trans (h.block k hk hne)⟩
theorem badField_any (p : Int) (B bs : Nat) (v : Value) (w : World) (hs : Src w B bs v) :
    Calls Tryz.prog 77 #[.pointer (some ⟨bs, 0, none⟩), .int .i64 p] w fun e w' => AnyInt e ∧ Src w' B bs v ∧ w.grownBy w' (some bs) := by
  have hlt := hs.lt
  have hlow := hs.low
  have hG := World.grownBy.refl w (some bs)
  go_enter Tryz.func77, Tryz.ntmps77
  go_wp2_with (first | (go_at_call 75; refine (next_any _ B bs v _ hs).mono ?_; rintro e w' ⟨⟨q, rfl, hq0, hq1, _⟩, hs', hG'⟩; have hql := hq1 (by omega); replace hs := hs'; replace hG := grownBy_trans hG hG') | (go_at_call 95; refine (pickL [2, 1, 0, -3, 9, 15, 37, 1099511627776] 8 rfl (by omega) (by omega) B bs v _ hs _ _ rfl).mono ?_; rintro e w' ⟨⟨q, rfl, hq⟩, hs', hG'⟩; replace hs := hs'; replace hG := grownBy_trans hG hG'))
  all_goals go_ret
  all_goals exact ⟨⟨_, rfl⟩, hs, hG⟩
theorem drawPoint_any (p : Int) (hp : 3 ≤ p) (B bs : Nat) (v : Value) (w : World) (hs : Src w B bs v) :
    Calls Tryz.prog 74 #[.pointer (some ⟨bs, 0, none⟩), .int .i64 p] w fun e w' => Pt p e ∧ Src w' B bs v ∧ w.grownBy w' (some bs) := by
  have hlt := hs.lt
  have hlow := hs.low
  have hG := World.grownBy.refl w (some bs)
  go_enter Tryz.func74, Tryz.ntmps74
  go_wp2_with fail
  generalize hW : (World.alloc w (.cells #[.int .i64 0, .int .i64 0] 29)) = W
  have z0 : W.cell? ⟨w.heap.size, 0, none⟩ = some (.int .i64 0) := by subst hW; go_simp
  have y0 : W.frozen? ⟨w.heap.size, 0, none⟩ = false := by subst hW; go_simp
  have z1 : W.cell? ⟨w.heap.size, 1, none⟩ = some (.int .i64 0) := by subst hW; go_simp
  have y1 : W.frozen? ⟨w.heap.size, 1, none⟩ = false := by subst hW; go_simp
  have hB : Below w.heap.size w W := by subst hW; go_grown
  replace hs : Src W B bs v := by subst hW; exact (hs).alloc _
  replace hG : w.grownBy W (some bs) := by subst hW; exact World.grownBy_alloc _ _ _
  clear hW
  have hrb : w.heap.size ≠ bs := by omega
  have hgw0 : w.heap.size ≤ w.heap.size := by omega
  go_wp2_with (go_at_call 75; refine (next_any _ B bs v _ hs).mono ?_; rintro e w' ⟨⟨q, rfl, hq0, hq1, _⟩, hs', hG'⟩; replace y0 := frozenG hG' z0 hrb y0; replace y1 := frozenG hG' z1 hrb y1; replace z0 := cellG hG' z0 hrb; replace z1 := cellG hG' z1 hrb; have hql := hq1 (by omega); replace hs := hs'; replace hG := grownBy_trans hG hG')
  all_goals try simp only [Exit.inBlock, Exit.then]
  all_goals refine bodyPost_ret (by simp [results, Tryz.results74, go_sem, y0, y1, z0, z1]; try rfl) rfl ?_
  all_goals exact ⟨⟨_, _, rfl, by omega, by omega, by omega, by omega⟩, by refine ⟨by (repeat (first | assumption | refine Src.alloc ?_ _ | refine Src.other ?_ (by dsimp only <;> omega) (by dsimp only <;> omega) _)), by (repeat (first | assumption | refine grownBy_new ?_ (by omega) _ _ | refine grownBy_trans ?_ (World.grownBy_alloc _ _ _)))⟩⟩
theorem badPoint_any (p ax ay : Int) (B bs : Nat) (v : Value) (w : World) (hs : Src w B bs v) :
    Calls Tryz.prog 86 #[.pointer (some ⟨bs, 0, none⟩), .int .i64 p, .agg #[.int .i64 ax, .int .i64 ay]] w fun e w' => AnyPt e ∧ Src w' B bs v ∧ w.grownBy w' (some bs) := by
  have hlt := hs.lt
  have hlow := hs.low
  have hG := World.grownBy.refl w (some bs)
  go_enter Tryz.func86, Tryz.ntmps86
  go_wp2_with fail
  generalize hW : (World.alloc (World.alloc w (.cells #[.int .i64 ax, .int .i64 ay] 29)) (.cells #[.int .i64 0, .int .i64 0] 29)) = W
  have d00 : W.cell? ⟨w.heap.size, 0, none⟩ = some (.int .i64 ax) := by subst hW; go_simp
  have d01 : W.cell? ⟨w.heap.size, 1, none⟩ = some (.int .i64 ay) := by subst hW; go_simp
  have z0 : W.cell? ⟨w.heap.size + 1, 0, none⟩ = some (.int .i64 0) := by subst hW; go_simp
  have y0 : W.frozen? ⟨w.heap.size + 1, 0, none⟩ = false := by subst hW; go_simp
  have z1 : W.cell? ⟨w.heap.size + 1, 1, none⟩ = some (.int .i64 0) := by subst hW; go_simp
  have y1 : W.frozen? ⟨w.heap.size + 1, 1, none⟩ = false := by subst hW; go_simp
  have g00 : W.frozen? ⟨w.heap.size, 0, none⟩ = false := by subst hW; go_simp
  have g01 : W.frozen? ⟨w.heap.size, 1, none⟩ = false := by subst hW; go_simp
  have hB : Below w.heap.size w W := by subst hW; go_grown
  replace hs : Src W B bs v := by subst hW; exact ((hs).alloc _).alloc _
  replace hG : w.grownBy W (some bs) := by subst hW; exact grownBy_trans (World.grownBy_alloc _ _ _) (World.grownBy_alloc _ _ _)
  clear hW
  have hrb : w.heap.size + 1 ≠ bs := by omega
  have hgw0 : w.heap.size ≤ w.heap.size + 1 := by omega
  go_wp2_with fail
  refine (next_any 40 B bs v _ hs).mono ?_
  rintro e w' ⟨⟨q, rfl, hq0, hq1, _⟩, hs', hG'⟩
  replace g00 := frozenG hG' d00 (by dsimp only <;> omega) g00
  replace g01 := frozenG hG' d01 (by dsimp only <;> omega) g01
  replace y0 := frozenG hG' z0 hrb y0
  replace y1 := frozenG hG' z1 hrb y1
  replace z0 := cellG hG' z0 hrb
  replace z1 := cellG hG' z1 hrb
  replace d00 := cellG hG' d00 (by dsimp only <;> omega)
  replace d01 := cellG hG' d01 (by dsimp only <;> omega)
  have hql := hq1 (by omega)
  replace hs := hs'
  replace hG := grownBy_trans hG hG'
  by_cases hz : q = 0
  · subst hz
    go_wp2_with fail
    refine (next_any 2 B bs v _ hs).mono ?_
    rintro e w' ⟨⟨q, rfl, hq0, hq1, _⟩, hs', hG'⟩
    replace g00 := frozenG hG' d00 (by dsimp only <;> omega) g00
    replace g01 := frozenG hG' d01 (by dsimp only <;> omega) g01
    replace y0 := frozenG hG' z0 hrb y0
    replace y1 := frozenG hG' z1 hrb y1
    replace z0 := cellG hG' z0 hrb
    replace z1 := cellG hG' z1 hrb
    replace d00 := cellG hG' d00 (by dsimp only <;> omega)
    replace d01 := cellG hG' d01 (by dsimp only <;> omega)
    have hql := hq1 (by omega)
    replace hs := hs'
    replace hG := grownBy_trans hG hG'
    rcases (show q = 0 ∨ q = 1 by omega) with rfl | rfl
    · go_wp2_with (go_at_call 95; refine (pickL [-1, p, 1099511627776] 3 rfl (by omega) (by omega) B bs v _ hs _ _ rfl).mono ?_; rintro e w' ⟨⟨q, rfl, hq⟩, hs', hG'⟩; replace g00 := frozenG hG' d00 (by dsimp only <;> omega) g00; replace g01 := frozenG hG' d01 (by dsimp only <;> omega) g01; replace y0 := frozenG hG' z0 hrb y0; replace y1 := frozenG hG' z1 hrb y1; replace z0 := cellG hG' z0 hrb; replace z1 := cellG hG' z1 hrb; replace d00 := cellG hG' d00 (by dsimp only <;> omega); replace d01 := cellG hG' d01 (by dsimp only <;> omega); replace hs := hs'; replace hG := grownBy_trans hG hG')
      try simp only [Exit.inBlock, Exit.then]
      refine bodyPost_ret (by simp [results, Tryz.results86, go_sem, y0, y1, z0, z1]; try rfl) rfl ?_
      exact ⟨⟨_, _, rfl⟩, by refine ⟨by (repeat (first | assumption | refine Src.alloc ?_ _ | refine Src.other ?_ (by dsimp only <;> omega) (by dsimp only <;> omega) _)), by (repeat (first | assumption | refine grownBy_new ?_ (by omega) _ _ | refine grownBy_trans ?_ (World.grownBy_alloc _ _ _)))⟩⟩
    · go_wp2_with (go_at_call 95; refine (pickL [-1, p, 1099511627776] 3 rfl (by omega) (by omega) B bs v _ hs _ _ rfl).mono ?_; rintro e w' ⟨⟨q, rfl, hq⟩, hs', hG'⟩; replace g00 := frozenG hG' d00 (by dsimp only <;> omega) g00; replace g01 := frozenG hG' d01 (by dsimp only <;> omega) g01; replace y0 := frozenG hG' z0 hrb y0; replace y1 := frozenG hG' z1 hrb y1; replace z0 := cellG hG' z0 hrb; replace z1 := cellG hG' z1 hrb; replace d00 := cellG hG' d00 (by dsimp only <;> omega); replace d01 := cellG hG' d01 (by dsimp only <;> omega); replace hs := hs'; replace hG := grownBy_trans hG hG')
      try simp only [Exit.inBlock, Exit.then]
      refine bodyPost_ret (by simp [results, Tryz.results86, go_sem, y0, y1, z0, z1]; try rfl) rfl ?_
      exact ⟨⟨_, _, rfl⟩, by refine ⟨by (repeat (first | assumption | refine Src.alloc ?_ _ | refine Src.other ?_ (by dsimp only <;> omega) (by dsimp only <;> omega) _)), by (repeat (first | assumption | refine grownBy_new ?_ (by omega) _ _ | refine grownBy_trans ?_ (World.grownBy_alloc _ _ _)))⟩⟩
  · go_wp2_with fail
    try simp only [Exit.inBlock, Exit.then]
    refine bodyPost_ret (by simp [results, Tryz.results86, go_sem, y0, y1, z0, z1]; try rfl) rfl ?_
    exact ⟨⟨_, _, rfl⟩, by refine ⟨by (repeat (first | assumption | refine Src.alloc ?_ _ | refine Src.other ?_ (by dsimp only <;> omega) (by dsimp only <;> omega) _)), by (repeat (first | assumption | refine grownBy_new ?_ (by omega) _ _ | refine grownBy_trans ?_ (World.grownBy_alloc _ _ _)))⟩⟩
theorem drawLine_any (p : Int) (hp : 3 ≤ p) (hp2 : p ≤ 31) (B bs : Nat) (v : Value) (w : World) (hs : Src w B bs v) :
    Calls Tryz.prog 79 #[.pointer (some ⟨bs, 0, none⟩), .int .i64 p] w fun e w' => Ln p e ∧ Src w' B bs v ∧ w.grownBy w' (some bs) := by
  have hlt := hs.lt
  have hlow := hs.low
  have hG := World.grownBy.refl w (some bs)
  go_enter Tryz.func79, Tryz.ntmps79
  go_wp2_with fail
  generalize hW : (World.alloc w (.cells #[.int .i64 0, .int .i64 0, .int .i64 0] 44)) = W
  have z0 : W.cell? ⟨w.heap.size, 0, none⟩ = some (.int .i64 0) := by subst hW; go_simp
  have y0 : W.frozen? ⟨w.heap.size, 0, none⟩ = false := by subst hW; go_simp
  have z1 : W.cell? ⟨w.heap.size, 1, none⟩ = some (.int .i64 0) := by subst hW; go_simp
  have y1 : W.frozen? ⟨w.heap.size, 1, none⟩ = false := by subst hW; go_simp
  have z2 : W.cell? ⟨w.heap.size, 2, none⟩ = some (.int .i64 0) := by subst hW; go_simp
  have y2 : W.frozen? ⟨w.heap.size, 2, none⟩ = false := by subst hW; go_simp
  have hB : Below w.heap.size w W := by subst hW; go_grown
  replace hs : Src W B bs v := by subst hW; exact (hs).alloc _
  replace hG : w.grownBy W (some bs) := by subst hW; exact World.grownBy_alloc _ _ _
  clear hW
  have hrb : w.heap.size ≠ bs := by omega
  have hgw0 : w.heap.size ≤ w.heap.size := by omega
  go_wp2_with (go_at_call 75; refine (next_any _ B bs v _ hs).mono ?_; rintro e w' ⟨⟨q, rfl, hq0, hq1, _⟩, hs', hG'⟩; replace y0 := frozenG hG' z0 hrb y0; replace y1 := frozenG hG' z1 hrb y1; replace y2 := frozenG hG' z2 hrb y2; replace z0 := cellG hG' z0 hrb; replace z1 := cellG hG' z1 hrb; replace z2 := cellG hG' z2 hrb; have hql := hq1 (by omega); replace hs := hs'; replace hG := grownBy_trans hG hG')
  all_goals try simp only [Exit.inBlock, Exit.then]
  all_goals refine bodyPost_ret (by simp [results, Tryz.results79, go_sem, y0, y1, y2, z0, z1, z2]; try rfl) rfl ?_
  all_goals exact ⟨⟨_, _, _, rfl, by omega, by omega, by omega, by omega, by omega⟩, by refine ⟨by (repeat (first | assumption | refine Src.alloc ?_ _ | refine Src.other ?_ (by dsimp only <;> omega) (by dsimp only <;> omega) _)), by (repeat (first | assumption | refine grownBy_new ?_ (by omega) _ _ | refine grownBy_trans ?_ (World.grownBy_alloc _ _ _)))⟩⟩
theorem badLine_any (p la lb lc : Int) (B bs : Nat) (v : Value) (w : World) (hs : Src w B bs v) :
    Calls Tryz.prog 91 #[.pointer (some ⟨bs, 0, none⟩), .int .i64 p, .agg #[.int .i64 la, .int .i64 lb, .int .i64 lc]] w fun e w' => AnyLn e ∧ Src w' B bs v ∧ w.grownBy w' (some bs) := by
  have hlt := hs.lt
  have hlow := hs.low
  have hG := World.grownBy.refl w (some bs)
  go_enter Tryz.func91, Tryz.ntmps91
  go_wp2_with fail
  generalize hW : (World.alloc (World.alloc w (.cells #[.int .i64 la, .int .i64 lb, .int .i64 lc] 44)) (.cells #[.int .i64 0, .int .i64 0, .int .i64 0] 44)) = W
  have d00 : W.cell? ⟨w.heap.size, 0, none⟩ = some (.int .i64 la) := by subst hW; go_simp
  have d01 : W.cell? ⟨w.heap.size, 1, none⟩ = some (.int .i64 lb) := by subst hW; go_simp
  have d02 : W.cell? ⟨w.heap.size, 2, none⟩ = some (.int .i64 lc) := by subst hW; go_simp
  have z0 : W.cell? ⟨w.heap.size + 1, 0, none⟩ = some (.int .i64 0) := by subst hW; go_simp
  have y0 : W.frozen? ⟨w.heap.size + 1, 0, none⟩ = false := by subst hW; go_simp
  have z1 : W.cell? ⟨w.heap.size + 1, 1, none⟩ = some (.int .i64 0) := by subst hW; go_simp
  have y1 : W.frozen? ⟨w.heap.size + 1, 1, none⟩ = false := by subst hW; go_simp
  have z2 : W.cell? ⟨w.heap.size + 1, 2, none⟩ = some (.int .i64 0) := by subst hW; go_simp
  have y2 : W.frozen? ⟨w.heap.size + 1, 2, none⟩ = false := by subst hW; go_simp
  have g00 : W.frozen? ⟨w.heap.size, 0, none⟩ = false := by subst hW; go_simp
  have g01 : W.frozen? ⟨w.heap.size, 1, none⟩ = false := by subst hW; go_simp
  have g02 : W.frozen? ⟨w.heap.size, 2, none⟩ = false := by subst hW; go_simp
  have hB : Below w.heap.size w W := by subst hW; go_grown
  replace hs : Src W B bs v := by subst hW; exact ((hs).alloc _).alloc _
  replace hG : w.grownBy W (some bs) := by subst hW; exact grownBy_trans (World.grownBy_alloc _ _ _) (World.grownBy_alloc _ _ _)
  clear hW
  have hrb : w.heap.size + 1 ≠ bs := by omega
  have hgw0 : w.heap.size ≤ w.heap.size + 1 := by omega
  go_wp2_with fail
  refine (next_any 40 B bs v _ hs).mono ?_
  rintro e w' ⟨⟨q, rfl, hq0, hq1, _⟩, hs', hG'⟩
  replace g00 := frozenG hG' d00 (by dsimp only <;> omega) g00
  replace g01 := frozenG hG' d01 (by dsimp only <;> omega) g01
  replace g02 := frozenG hG' d02 (by dsimp only <;> omega) g02
  replace y0 := frozenG hG' z0 hrb y0
  replace y1 := frozenG hG' z1 hrb y1
  replace y2 := frozenG hG' z2 hrb y2
  replace z0 := cellG hG' z0 hrb
  replace z1 := cellG hG' z1 hrb
  replace z2 := cellG hG' z2 hrb
  replace d00 := cellG hG' d00 (by dsimp only <;> omega)
  replace d01 := cellG hG' d01 (by dsimp only <;> omega)
  replace d02 := cellG hG' d02 (by dsimp only <;> omega)
  have hql := hq1 (by omega)
  replace hs := hs'
  replace hG := grownBy_trans hG hG'
  by_cases hz : q = 0
  · subst hz
    go_wp2_with fail
    refine (next_any 3 B bs v _ hs).mono ?_
    rintro e w' ⟨⟨q, rfl, hq0, hq1, _⟩, hs', hG'⟩
    replace g00 := frozenG hG' d00 (by dsimp only <;> omega) g00
    replace g01 := frozenG hG' d01 (by dsimp only <;> omega) g01
    replace g02 := frozenG hG' d02 (by dsimp only <;> omega) g02
    replace y0 := frozenG hG' z0 hrb y0
    replace y1 := frozenG hG' z1 hrb y1
    replace y2 := frozenG hG' z2 hrb y2
    replace z0 := cellG hG' z0 hrb
    replace z1 := cellG hG' z1 hrb
    replace z2 := cellG hG' z2 hrb
    replace d00 := cellG hG' d00 (by dsimp only <;> omega)
    replace d01 := cellG hG' d01 (by dsimp only <;> omega)
    replace d02 := cellG hG' d02 (by dsimp only <;> omega)
    have hql := hq1 (by omega)
    replace hs := hs'
    replace hG := grownBy_trans hG hG'
    rcases (show q = 0 ∨ q = 1 ∨ q = 2 by omega) with rfl | rfl | rfl
    · go_wp2_with (go_at_call 95; refine (pickL [-1, p, 1099511627776] 3 rfl (by omega) (by omega) B bs v _ hs _ _ rfl).mono ?_; rintro e w' ⟨⟨q, rfl, hq⟩, hs', hG'⟩; replace g00 := frozenG hG' d00 (by dsimp only <;> omega) g00; replace g01 := frozenG hG' d01 (by dsimp only <;> omega) g01; replace g02 := frozenG hG' d02 (by dsimp only <;> omega) g02; replace y0 := frozenG hG' z0 hrb y0; replace y1 := frozenG hG' z1 hrb y1; replace y2 := frozenG hG' z2 hrb y2; replace z0 := cellG hG' z0 hrb; replace z1 := cellG hG' z1 hrb; replace z2 := cellG hG' z2 hrb; replace d00 := cellG hG' d00 (by dsimp only <;> omega); replace d01 := cellG hG' d01 (by dsimp only <;> omega); replace d02 := cellG hG' d02 (by dsimp only <;> omega); replace hs := hs'; replace hG := grownBy_trans hG hG')
      try simp only [Exit.inBlock, Exit.then]
      refine bodyPost_ret (by simp [results, Tryz.results91, go_sem, y0, y1, y2, z0, z1, z2]; try rfl) rfl ?_
      exact ⟨⟨_, _, _, rfl⟩, by refine ⟨by (repeat (first | assumption | refine Src.alloc ?_ _ | refine Src.other ?_ (by dsimp only <;> omega) (by dsimp only <;> omega) _)), by (repeat (first | assumption | refine grownBy_new ?_ (by omega) _ _ | refine grownBy_trans ?_ (World.grownBy_alloc _ _ _)))⟩⟩
    · go_wp2_with (go_at_call 95; refine (pickL [-1, p, 1099511627776] 3 rfl (by omega) (by omega) B bs v _ hs _ _ rfl).mono ?_; rintro e w' ⟨⟨q, rfl, hq⟩, hs', hG'⟩; replace g00 := frozenG hG' d00 (by dsimp only <;> omega) g00; replace g01 := frozenG hG' d01 (by dsimp only <;> omega) g01; replace g02 := frozenG hG' d02 (by dsimp only <;> omega) g02; replace y0 := frozenG hG' z0 hrb y0; replace y1 := frozenG hG' z1 hrb y1; replace y2 := frozenG hG' z2 hrb y2; replace z0 := cellG hG' z0 hrb; replace z1 := cellG hG' z1 hrb; replace z2 := cellG hG' z2 hrb; replace d00 := cellG hG' d00 (by dsimp only <;> omega); replace d01 := cellG hG' d01 (by dsimp only <;> omega); replace d02 := cellG hG' d02 (by dsimp only <;> omega); replace hs := hs'; replace hG := grownBy_trans hG hG')
      try simp only [Exit.inBlock, Exit.then]
      refine bodyPost_ret (by simp [results, Tryz.results91, go_sem, y0, y1, y2, z0, z1, z2]; try rfl) rfl ?_
      exact ⟨⟨_, _, _, rfl⟩, by refine ⟨by (repeat (first | assumption | refine Src.alloc ?_ _ | refine Src.other ?_ (by dsimp only <;> omega) (by dsimp only <;> omega) _)), by (repeat (first | assumption | refine grownBy_new ?_ (by omega) _ _ | refine grownBy_trans ?_ (World.grownBy_alloc _ _ _)))⟩⟩
    · go_wp2_with (go_at_call 95; refine (pickL [-1, p, 1099511627776] 3 rfl (by omega) (by omega) B bs v _ hs _ _ rfl).mono ?_; rintro e w' ⟨⟨q, rfl, hq⟩, hs', hG'⟩; replace g00 := frozenG hG' d00 (by dsimp only <;> omega) g00; replace g01 := frozenG hG' d01 (by dsimp only <;> omega) g01; replace g02 := frozenG hG' d02 (by dsimp only <;> omega) g02; replace y0 := frozenG hG' z0 hrb y0; replace y1 := frozenG hG' z1 hrb y1; replace y2 := frozenG hG' z2 hrb y2; replace z0 := cellG hG' z0 hrb; replace z1 := cellG hG' z1 hrb; replace z2 := cellG hG' z2 hrb; replace d00 := cellG hG' d00 (by dsimp only <;> omega); replace d01 := cellG hG' d01 (by dsimp only <;> omega); replace d02 := cellG hG' d02 (by dsimp only <;> omega); replace hs := hs'; replace hG := grownBy_trans hG hG')
      try simp only [Exit.inBlock, Exit.then]
      refine bodyPost_ret (by simp [results, Tryz.results91, go_sem, y0, y1, y2, z0, z1, z2]; try rfl) rfl ?_
      exact ⟨⟨_, _, _, rfl⟩, by refine ⟨by (repeat (first | assumption | refine Src.alloc ?_ _ | refine Src.other ?_ (by dsimp only <;> omega) (by dsimp only <;> omega) _)), by (repeat (first | assumption | refine grownBy_new ?_ (by omega) _ _ | refine grownBy_trans ?_ (World.grownBy_alloc _ _ _)))⟩⟩
  by_cases hz1 : q = 1
  · subst hz1
    go_wp2_with (go_at_call 95; refine (pickL [0, 2] 2 rfl (by omega) (by omega) B bs v _ hs _ _ rfl).mono ?_; rintro e w' ⟨⟨q, rfl, hq⟩, hs', hG'⟩; replace g00 := frozenG hG' d00 (by dsimp only <;> omega) g00; replace g01 := frozenG hG' d01 (by dsimp only <;> omega) g01; replace g02 := frozenG hG' d02 (by dsimp only <;> omega) g02; replace y0 := frozenG hG' z0 hrb y0; replace y1 := frozenG hG' z1 hrb y1; replace y2 := frozenG hG' z2 hrb y2; replace z0 := cellG hG' z0 hrb; replace z1 := cellG hG' z1 hrb; replace z2 := cellG hG' z2 hrb; replace d00 := cellG hG' d00 (by dsimp only <;> omega); replace d01 := cellG hG' d01 (by dsimp only <;> omega); replace d02 := cellG hG' d02 (by dsimp only <;> omega); replace hs := hs'; replace hG := grownBy_trans hG hG')
    try simp only [Exit.inBlock, Exit.then]
    refine bodyPost_ret (by simp [results, Tryz.results91, go_sem, y0, y1, y2, z0, z1, z2]; try rfl) rfl ?_
    exact ⟨⟨_, _, _, rfl⟩, by refine ⟨by (repeat (first | assumption | refine Src.alloc ?_ _ | refine Src.other ?_ (by dsimp only <;> omega) (by dsimp only <;> omega) _)), by (repeat (first | assumption | refine grownBy_new ?_ (by omega) _ _ | refine grownBy_trans ?_ (World.grownBy_alloc _ _ _)))⟩⟩
  by_cases hz2 : q = 2
  · subst hz2
    go_wp2_with fail
    try simp only [Exit.inBlock, Exit.then]
    refine bodyPost_ret (by simp [results, Tryz.results91, go_sem, y0, y1, y2, z0, z1, z2]; try rfl) rfl ?_
    exact ⟨⟨_, _, _, rfl⟩, by refine ⟨by (repeat (first | assumption | refine Src.alloc ?_ _ | refine Src.other ?_ (by dsimp only <;> omega) (by dsimp only <;> omega) _)), by (repeat (first | assumption | refine grownBy_new ?_ (by omega) _ _ | refine grownBy_trans ?_ (World.grownBy_alloc _ _ _)))⟩⟩
  go_wp2_with fail
  try simp only [Exit.inBlock, Exit.then]
  refine bodyPost_ret (by simp [results, Tryz.results91, go_sem, y0, y1, y2, z0, z1, z2]; try rfl) rfl ?_
  exact ⟨⟨_, _, _, rfl⟩, by refine ⟨by (repeat (first | assumption | refine Src.alloc ?_ _ | refine Src.other ?_ (by dsimp only <;> omega) (by dsimp only <;> omega) _)), by (repeat (first | assumption | refine grownBy_new ?_ (by omega) _ _ | refine grownBy_trans ?_ (World.grownBy_alloc _ _ _)))⟩⟩
end Go.Proofs.YtbjcbbnfgfmllaaGreatDoor
