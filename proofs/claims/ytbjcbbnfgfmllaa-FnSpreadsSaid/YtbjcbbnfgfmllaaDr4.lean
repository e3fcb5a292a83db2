/- The line through a point by a direction, whatever they are. -/
import Derived.Test.YtbjcbbnfgfmllaaDr3
import Derived.Test.YtbjcbbnfgfmllaaSx
set_option linter.unusedVariables false
set_option linter.unusedSimpArgs false
set_option maxHeartbeats 1000000
set_option maxRecDepth 100000
namespace Go.Proofs.Ytbjcbbnfgfmllaa
open Go.RowKit
/-- The numbers with which the product with a direction is made. -/
def thU (k dx dy : Int) : Int := if k = 2 then dy else dx
def thV (p k dx dy : Int) : Int := if k = 2 then dx else if k = 1 then (-dy) % p else dy
/-- Some line of small numbers. -/
def Rng (p : Int) (v : Value) : Prop := ∃ a b c : Int, v = .agg #[.int .i64 a, .int .i64 b, .int .i64 c] ∧ 0 ≤ a ∧ a < p ∧ 0 ≤ b ∧ b < p ∧ 0 ≤ c ∧ c < p
def RngE (p : Int) (e : Ending) : Prop := ∃ v, e = .returned v ∧ Rng p v
theorem Reg.inh_nil : ∀ S ∈ ([] : List (Value → Prop)), ∃ v, S v := by intro S h; cases h
theorem Reg.inh_cons {S : Value → Prop} {Ss : List (Value → Prop)} (h : ∃ v, S v) (t : ∀ S ∈ Ss, ∃ v, S v) : ∀ S' ∈ S :: Ss, ∃ v, S' v := by
  intro S' h'
  rcases List.mem_cons.1 h' with rfl | h'
  · exact h
  · exact t S' h'
theorem grown_below {w w' : World} {row : Option Nat} (h : Below w.heap.size w w') : w.grownBy w' row := ⟨h.os, h.tape, h.output, h.size, fun k hk _ => h.block k hk⟩
theorem below_grown {B : Nat} {a w w' : World} {bs : Nat} (h : Below B a w) (hg : w.grownBy w' (some bs)) (hB : B ≤ w.heap.size) (hb : B ≤ bs) : Below B a w' := h.grown hg hB (fun k hk => by cases hk; exact hb)
theorem l02Through_rng (p k dx dy ax ay : Int) (w : World) (hf : Pl.fieldB p = true) (hk : Pl.colB k = true) (dx1 : 0 ≤ dx) (dx2 : dx < p) (dy1 : 0 ≤ dy) (dy2 : dy < p) (ax1 : 0 ≤ ax) (ax2 : ax < p) (ay1 : 0 ≤ ay) (ay2 : ay < p) :
    Calls Try.prog 126 #[.int .i64 p, .int .i64 k, .agg #[.int .i64 dx, .int .i64 dy], .agg #[.int .i64 ax, .int .i64 ay]] w fun e w' => e = .returned (.agg #[.int .i64 (Pl.nrm p (thU k dx dy) (thV p k dx dy) (thU k dx dy)), .int .i64 (Pl.nrm p (thU k dx dy) (thV p k dx dy) (thV p k dx dy)), .int .i64 (Pl.nrm p (thU k dx dy) (thV p k dx dy) ((-(thU k dx dy * ax + thV p k dx dy * ay)) % p))]) ∧ Below w.heap.size w w' := by
  have hp := Pl.field_bd hf
  obtain ⟨hp1, hp2⟩ := hp
  have r1n := Int.emod_nonneg (-dy) (show p ≠ 0 by omega)
  have r1l := Int.emod_lt_of_pos (-dy) (show 0 < p by omega)
  have HK := hid hk
  have hkc : k = 0 ∨ k = 1 ∨ k = 2 := by simp [Pl.colB] at hk; omega
  clear hk
  rcases hkc with rfl | rfl | rfl
  · have m1 := Pl.mulB (show 0 ≤ dx by omega) (show dx ≤ 31 by omega) (show 0 ≤ ax by omega) (show ax ≤ 31 by omega)
    obtain ⟨m1a, m1b⟩ := m1
    have m2 := Pl.mulB (show 0 ≤ dy by omega) (show dy ≤ 31 by omega) (show 0 ≤ ay by omega) (show ay ≤ 31 by omega)
    obtain ⟨m2a, m2b⟩ := m2
    have e0 : IntKind.i64.wrap (-dy) = -dy := IntWalk.i64_in _ (by omega)
    have e1 : IntKind.i64.wrap (dx * ax) = dx * ax := IntWalk.i64_in _ (by omega)
    have e2 : IntKind.i64.wrap (dy * ay) = dy * ay := IntWalk.i64_in _ (by omega)
    have e3 : IntKind.i64.wrap (dx * ax + dy * ay) = dx * ax + dy * ay := IntWalk.i64_in _ (by omega)
    have e4 : IntKind.i64.wrap (-(dx * ax + dy * ay)) = -(dx * ax + dy * ay) := IntWalk.i64_in _ (by omega)
    have r5n := Int.emod_nonneg (-(dx * ax + dy * ay)) (show p ≠ 0 by omega)
    have r5l := Int.emod_lt_of_pos (-(dx * ax + dy * ay)) (show 0 < p by omega)
    go_enter Try.func126, Try.ntmps126
    go_wp2_with fail
    generalize hW : (World.alloc (World.alloc (World.alloc w (.cells #[.int .i64 dx, .int .i64 dy] 33)) (.cells #[.int .i64 ax, .int .i64 ay] 33)) (.cells #[.int .i64 0, .int .i64 0, .int .i64 0] 25)) = W
    have d00 : W.cell? ⟨w.heap.size, 0, none⟩ = some (.int .i64 dx) := by subst hW; go_simp
    have d01 : W.cell? ⟨w.heap.size, 1, none⟩ = some (.int .i64 dy) := by subst hW; go_simp
    have d10 : W.cell? ⟨w.heap.size + 1, 0, none⟩ = some (.int .i64 ax) := by subst hW; go_simp
    have d11 : W.cell? ⟨w.heap.size + 1, 1, none⟩ = some (.int .i64 ay) := by subst hW; go_simp
    have z0 : W.cell? ⟨w.heap.size + 1 + 1, 0, none⟩ = some (.int .i64 0) := by subst hW; go_simp
    have y0 : W.frozen? ⟨w.heap.size + 1 + 1, 0, none⟩ = false := by subst hW; go_simp
    have z1 : W.cell? ⟨w.heap.size + 1 + 1, 1, none⟩ = some (.int .i64 0) := by subst hW; go_simp
    have y1 : W.frozen? ⟨w.heap.size + 1 + 1, 1, none⟩ = false := by subst hW; go_simp
    have z2 : W.cell? ⟨w.heap.size + 1 + 1, 2, none⟩ = some (.int .i64 0) := by subst hW; go_simp
    have y2 : W.frozen? ⟨w.heap.size + 1 + 1, 2, none⟩ = false := by subst hW; go_simp
    have hgw0 : w.heap.size ≤ w.heap.size + 1 + 1 := by omega
    have hB : Below w.heap.size w W := by subst hW; go_grown
    clear hW
    generalize hgr : w.heap.size + 1 + 1 = r at *
    clear hgr
    go_region
    go_wp2_with (first | (go_at_call 71; refine (l01Mod_any _ _ _ (by omega) (by omega)).mono ?_; rintro e w' ⟨rfl, rfl⟩) | (go_at_call 136; refine (l01Normal_any _ _ _ _ _ hf (by omega) (by omega) (by omega) (by omega) (by omega) (by omega)).mono ?_; rintro e w' ⟨rfl, hbn⟩; replace y0 := keepF hbn z0 y0; replace y1 := keepF hbn z1 y1; replace y2 := keepF hbn z2 y2; replace z0 := keepC hbn z0; replace z1 := keepC hbn z1; replace z2 := keepC hbn z2; replace hB := below_of (B := w.heap.size) (a := w) (by first | exact hB | (have := hB.size; go_grown)) hbn (by first | exact hB.size | (have := hB.size; simp <;> omega)); clear hbn))
    try simp only [Exit.inBlock, Exit.then]
    refine bodyPost_ret (by simp [results, Try.results126, go_sem, y0, y1, y2, z0, z1, z2]; try rfl) rfl ?_
    exact ⟨rfl, by first | exact hB | go_grown⟩
  · have m1 := Pl.mulB (show 0 ≤ dx by omega) (show dx ≤ 31 by omega) (show 0 ≤ ax by omega) (show ax ≤ 31 by omega)
    obtain ⟨m1a, m1b⟩ := m1
    have m2 := Pl.mulB (show 0 ≤ ((-dy) % p) by omega) (show ((-dy) % p) ≤ 31 by omega) (show 0 ≤ ay by omega) (show ay ≤ 31 by omega)
    obtain ⟨m2a, m2b⟩ := m2
    have e0 : IntKind.i64.wrap (-dy) = -dy := IntWalk.i64_in _ (by omega)
    have e1 : IntKind.i64.wrap (dx * ax) = dx * ax := IntWalk.i64_in _ (by omega)
    have e2 : IntKind.i64.wrap (((-dy) % p) * ay) = ((-dy) % p) * ay := IntWalk.i64_in _ (by omega)
    have e3 : IntKind.i64.wrap (dx * ax + ((-dy) % p) * ay) = dx * ax + ((-dy) % p) * ay := IntWalk.i64_in _ (by omega)
    have e4 : IntKind.i64.wrap (-(dx * ax + ((-dy) % p) * ay)) = -(dx * ax + ((-dy) % p) * ay) := IntWalk.i64_in _ (by omega)
    have r5n := Int.emod_nonneg (-(dx * ax + ((-dy) % p) * ay)) (show p ≠ 0 by omega)
    have r5l := Int.emod_lt_of_pos (-(dx * ax + ((-dy) % p) * ay)) (show 0 < p by omega)
    go_enter Try.func126, Try.ntmps126
    go_wp2_with fail
    generalize hW : (World.alloc (World.alloc (World.alloc w (.cells #[.int .i64 dx, .int .i64 dy] 33)) (.cells #[.int .i64 ax, .int .i64 ay] 33)) (.cells #[.int .i64 0, .int .i64 0, .int .i64 0] 25)) = W
    have d00 : W.cell? ⟨w.heap.size, 0, none⟩ = some (.int .i64 dx) := by subst hW; go_simp
    have d01 : W.cell? ⟨w.heap.size, 1, none⟩ = some (.int .i64 dy) := by subst hW; go_simp
    have d10 : W.cell? ⟨w.heap.size + 1, 0, none⟩ = some (.int .i64 ax) := by subst hW; go_simp
    have d11 : W.cell? ⟨w.heap.size + 1, 1, none⟩ = some (.int .i64 ay) := by subst hW; go_simp
    have z0 : W.cell? ⟨w.heap.size + 1 + 1, 0, none⟩ = some (.int .i64 0) := by subst hW; go_simp
    have y0 : W.frozen? ⟨w.heap.size + 1 + 1, 0, none⟩ = false := by subst hW; go_simp
    have z1 : W.cell? ⟨w.heap.size + 1 + 1, 1, none⟩ = some (.int .i64 0) := by subst hW; go_simp
    have y1 : W.frozen? ⟨w.heap.size + 1 + 1, 1, none⟩ = false := by subst hW; go_simp
    have z2 : W.cell? ⟨w.heap.size + 1 + 1, 2, none⟩ = some (.int .i64 0) := by subst hW; go_simp
    have y2 : W.frozen? ⟨w.heap.size + 1 + 1, 2, none⟩ = false := by subst hW; go_simp
    have hgw0 : w.heap.size ≤ w.heap.size + 1 + 1 := by omega
    have hB : Below w.heap.size w W := by subst hW; go_grown
    clear hW
    generalize hgr : w.heap.size + 1 + 1 = r at *
    clear hgr
    go_region
    go_wp2_with (first | (go_at_call 71; refine (l01Mod_any _ _ _ (by omega) (by omega)).mono ?_; rintro e w' ⟨rfl, rfl⟩) | (go_at_call 136; refine (l01Normal_any _ _ _ _ _ hf (by omega) (by omega) (by omega) (by omega) (by omega) (by omega)).mono ?_; rintro e w' ⟨rfl, hbn⟩; replace y0 := keepF hbn z0 y0; replace y1 := keepF hbn z1 y1; replace y2 := keepF hbn z2 y2; replace z0 := keepC hbn z0; replace z1 := keepC hbn z1; replace z2 := keepC hbn z2; replace hB := below_of (B := w.heap.size) (a := w) (by first | exact hB | (have := hB.size; go_grown)) hbn (by first | exact hB.size | (have := hB.size; simp <;> omega)); clear hbn))
    try simp only [Exit.inBlock, Exit.then]
    refine bodyPost_ret (by simp [results, Try.results126, go_sem, y0, y1, y2, z0, z1, z2]; try rfl) rfl ?_
    exact ⟨rfl, by first | exact hB | go_grown⟩
  · have m1 := Pl.mulB (show 0 ≤ dy by omega) (show dy ≤ 31 by omega) (show 0 ≤ ax by omega) (show ax ≤ 31 by omega)
    obtain ⟨m1a, m1b⟩ := m1
    have m2 := Pl.mulB (show 0 ≤ dx by omega) (show dx ≤ 31 by omega) (show 0 ≤ ay by omega) (show ay ≤ 31 by omega)
    obtain ⟨m2a, m2b⟩ := m2
    have e0 : IntKind.i64.wrap (-dy) = -dy := IntWalk.i64_in _ (by omega)
    have e1 : IntKind.i64.wrap (dy * ax) = dy * ax := IntWalk.i64_in _ (by omega)
    have e2 : IntKind.i64.wrap (dx * ay) = dx * ay := IntWalk.i64_in _ (by omega)
    have e3 : IntKind.i64.wrap (dy * ax + dx * ay) = dy * ax + dx * ay := IntWalk.i64_in _ (by omega)
    have e4 : IntKind.i64.wrap (-(dy * ax + dx * ay)) = -(dy * ax + dx * ay) := IntWalk.i64_in _ (by omega)
    have r5n := Int.emod_nonneg (-(dy * ax + dx * ay)) (show p ≠ 0 by omega)
    have r5l := Int.emod_lt_of_pos (-(dy * ax + dx * ay)) (show 0 < p by omega)
    go_enter Try.func126, Try.ntmps126
    go_wp2_with fail
    generalize hW : (World.alloc (World.alloc (World.alloc w (.cells #[.int .i64 dx, .int .i64 dy] 33)) (.cells #[.int .i64 ax, .int .i64 ay] 33)) (.cells #[.int .i64 0, .int .i64 0, .int .i64 0] 25)) = W
    have d00 : W.cell? ⟨w.heap.size, 0, none⟩ = some (.int .i64 dx) := by subst hW; go_simp
    have d01 : W.cell? ⟨w.heap.size, 1, none⟩ = some (.int .i64 dy) := by subst hW; go_simp
    have d10 : W.cell? ⟨w.heap.size + 1, 0, none⟩ = some (.int .i64 ax) := by subst hW; go_simp
    have d11 : W.cell? ⟨w.heap.size + 1, 1, none⟩ = some (.int .i64 ay) := by subst hW; go_simp
    have z0 : W.cell? ⟨w.heap.size + 1 + 1, 0, none⟩ = some (.int .i64 0) := by subst hW; go_simp
    have y0 : W.frozen? ⟨w.heap.size + 1 + 1, 0, none⟩ = false := by subst hW; go_simp
    have z1 : W.cell? ⟨w.heap.size + 1 + 1, 1, none⟩ = some (.int .i64 0) := by subst hW; go_simp
    have y1 : W.frozen? ⟨w.heap.size + 1 + 1, 1, none⟩ = false := by subst hW; go_simp
    have z2 : W.cell? ⟨w.heap.size + 1 + 1, 2, none⟩ = some (.int .i64 0) := by subst hW; go_simp
    have y2 : W.frozen? ⟨w.heap.size + 1 + 1, 2, none⟩ = false := by subst hW; go_simp
    have hgw0 : w.heap.size ≤ w.heap.size + 1 + 1 := by omega
    have hB : Below w.heap.size w W := by subst hW; go_grown
    clear hW
    generalize hgr : w.heap.size + 1 + 1 = r at *
    clear hgr
    go_region
    go_wp2_with (first | (go_at_call 71; refine (l01Mod_any _ _ _ (by omega) (by omega)).mono ?_; rintro e w' ⟨rfl, rfl⟩) | (go_at_call 136; refine (l01Normal_any _ _ _ _ _ hf (by omega) (by omega) (by omega) (by omega) (by omega) (by omega)).mono ?_; rintro e w' ⟨rfl, hbn⟩; replace y0 := keepF hbn z0 y0; replace y1 := keepF hbn z1 y1; replace y2 := keepF hbn z2 y2; replace z0 := keepC hbn z0; replace z1 := keepC hbn z1; replace z2 := keepC hbn z2; replace hB := below_of (B := w.heap.size) (a := w) (by first | exact hB | (have := hB.size; go_grown)) hbn (by first | exact hB.size | (have := hB.size; simp <;> omega)); clear hbn))
    try simp only [Exit.inBlock, Exit.then]
    refine bodyPost_ret (by simp [results, Try.results126, go_sem, y0, y1, y2, z0, z1, z2]; try rfl) rfl ?_
    exact ⟨rfl, by first | exact hB | go_grown⟩
end Go.Proofs.Ytbjcbbnfgfmllaa
