/- Contracts: quotients, lines that numbers make, combinations, directions, perpendicular lines, quadrances: helpers of both sides. -/
import Derived.Test.YtbjcbbnfgfmllaaGreatDoorG
import Derived.Test.YtbjcbbnfgfmllaaGreatDoorPlA
import Derived.Test.YtbjcbbnfgfmllaaGreatDoorC
set_option linter.unusedVariables false
set_option linter.unusedSimpArgs false
set_option maxRecDepth 100000
set_option maxHeartbeats 1000000
namespace Go.Proofs.YtbjcbbnfgfmllaaGreatDoor
open Go.RowKit
theorem ret_pi {a b c d e f : Int} (h0 : a = b) (h1 : c = d) (h2 : e = f) : Ending.returned (.tuple #[.agg #[.int .i64 a, .int .i64 c], .int .i64 e]) = .returned (.tuple #[.agg #[.int .i64 b, .int .i64 d], .int .i64 f]) := by rw [h0, h1, h2]
theorem ret_li {a b c d e f g h : Int} (h0 : a = b) (h1 : c = d) (h2 : e = f) (h3 : g = h) : Ending.returned (.tuple #[.agg #[.int .i64 a, .int .i64 c, .int .i64 e], .int .i64 g]) = .returned (.tuple #[.agg #[.int .i64 b, .int .i64 d, .int .i64 f], .int .i64 h]) := by rw [h0, h1, h2, h3]
theorem ret_p {a b c d : Int} (h0 : a = b) (h1 : c = d) : Ending.returned (.agg #[.int .i64 a, .int .i64 c]) = .returned (.agg #[.int .i64 b, .int .i64 d]) := by rw [h0, h1]
theorem ret_l {a b c d e f : Int} (h0 : a = b) (h1 : c = d) (h2 : e = f) : Ending.returned (.agg #[.int .i64 a, .int .i64 c, .int .i64 e]) = .returned (.agg #[.int .i64 b, .int .i64 d, .int .i64 f]) := by rw [h0, h1, h2]
theorem l01Minus_any (p ax ay bx by_ : Int) (w : World) (hp1 : 1 ≤ p) (hp2 : p ≤ 31) (ax1 : 0 ≤ ax) (ax2 : ax ≤ 31) (ay1 : 0 ≤ ay) (ay2 : ay ≤ 31) (bx1 : 0 ≤ bx) (bx2 : bx ≤ 31) (by_1 : 0 ≤ by_) (by_2 : by_ ≤ 31) :
    Calls Tryz.prog 55 #[.int .i64 p, .agg #[.int .i64 ax, .int .i64 ay], .agg #[.int .i64 bx, .int .i64 by_]] w fun e w' => e = .returned (.agg #[.int .i64 ((ax - bx) % p), .int .i64 ((ay - by_) % p)]) ∧ Below w.heap.size w w' := by
  have e0 : IntKind.i64.wrap (ax - bx) = ax - bx := IntWalk.i64_in _ (by omega)
  have e1 : IntKind.i64.wrap (ay - by_) = ay - by_ := IntWalk.i64_in _ (by omega)
  go_enter Tryz.func55, Tryz.ntmps55
  go_wp2_with fail
  go_region_held3 (fun w' => w'.cell? ⟨w.heap.size, 0, none⟩ = some (.int .i64 ax) ∧ w'.cell? ⟨w.heap.size, 1, none⟩ = some (.int .i64 ay) ∧ w'.cell? ⟨w.heap.size + 1, 0, none⟩ = some (.int .i64 bx) ∧ w'.cell? ⟨w.heap.size + 1, 1, none⟩ = some (.int .i64 by_)) (go_keep) (first | (go_at_call 85; refine (l01Mod_any _ _ _ (by omega) (by omega)).mono ?_; rintro e w' ⟨rfl, rfl⟩))
  go_wp2_with fail
  go_returns
  exact ⟨rfl, by go_grown⟩
theorem l01Plus_any (p ax ay bx by_ : Int) (w : World) (hp1 : 1 ≤ p) (hp2 : p ≤ 31) (ax1 : 0 ≤ ax) (ax2 : ax ≤ 31) (ay1 : 0 ≤ ay) (ay2 : ay ≤ 31) (bx1 : 0 ≤ bx) (bx2 : bx ≤ 31) (by_1 : 0 ≤ by_) (by_2 : by_ ≤ 31) :
    Calls Tryz.prog 82 #[.int .i64 p, .agg #[.int .i64 ax, .int .i64 ay], .agg #[.int .i64 bx, .int .i64 by_]] w fun e w' => e = .returned (.agg #[.int .i64 ((ax + bx) % p), .int .i64 ((ay + by_) % p)]) ∧ Below w.heap.size w w' := by
  have e0 : IntKind.i64.wrap (ax + bx) = ax + bx := IntWalk.i64_in _ (by omega)
  have e1 : IntKind.i64.wrap (ay + by_) = ay + by_ := IntWalk.i64_in _ (by omega)
  go_enter Tryz.func82, Tryz.ntmps82
  go_wp2_with fail
  go_region_held3 (fun w' => w'.cell? ⟨w.heap.size, 0, none⟩ = some (.int .i64 ax) ∧ w'.cell? ⟨w.heap.size, 1, none⟩ = some (.int .i64 ay) ∧ w'.cell? ⟨w.heap.size + 1, 0, none⟩ = some (.int .i64 bx) ∧ w'.cell? ⟨w.heap.size + 1, 1, none⟩ = some (.int .i64 by_)) (go_keep) (first | (go_at_call 85; refine (l01Mod_any _ _ _ (by omega) (by omega)).mono ?_; rintro e w' ⟨rfl, rfl⟩))
  go_wp2_with fail
  go_returns
  exact ⟨rfl, by go_grown⟩
theorem l01Times_any (p t ax ay : Int) (w : World) (hp1 : 1 ≤ p) (hp2 : p ≤ 31) (t1 : 0 ≤ t) (t2 : t ≤ 31) (ax1 : 0 ≤ ax) (ax2 : ax ≤ 31) (ay1 : 0 ≤ ay) (ay2 : ay ≤ 31) :
    Calls Tryz.prog 83 #[.int .i64 p, .int .i64 t, .agg #[.int .i64 ax, .int .i64 ay]] w fun e w' => e = .returned (.agg #[.int .i64 ((t * ax) % p), .int .i64 ((t * ay) % p)]) ∧ Below w.heap.size w w' := by
  have h1 := Pl.mulB (show 0 ≤ t by omega) (show t ≤ 31 by omega) (show 0 ≤ ax by omega) (show ax ≤ 31 by omega)
  obtain ⟨h1a, h1b⟩ := h1
  have h2 := Pl.mulB (show 0 ≤ t by omega) (show t ≤ 31 by omega) (show 0 ≤ ay by omega) (show ay ≤ 31 by omega)
  obtain ⟨h2a, h2b⟩ := h2
  have e0 : IntKind.i64.wrap (t * ax) = t * ax := IntWalk.i64_in _ (by omega)
  have e1 : IntKind.i64.wrap (t * ay) = t * ay := IntWalk.i64_in _ (by omega)
  go_enter Tryz.func83, Tryz.ntmps83
  go_wp2_with fail
  go_region_held3 (fun w' => w'.cell? ⟨w.heap.size, 0, none⟩ = some (.int .i64 ax) ∧ w'.cell? ⟨w.heap.size, 1, none⟩ = some (.int .i64 ay)) (go_keep) (first | (go_at_call 85; refine (l01Mod_any _ _ _ (by omega) (by omega)).mono ?_; rintro e w' ⟨rfl, rfl⟩))
  go_wp2_with fail
  go_returns
  exact ⟨rfl, by go_grown⟩
theorem combination_any (p ax ay bx by_ t : Int) (w : World) (hp1 : 1 ≤ p) (hp2 : p ≤ 31) (ax1 : 0 ≤ ax) (ax2 : ax ≤ 31) (ay1 : 0 ≤ ay) (ay2 : ay ≤ 31) (bx1 : 0 ≤ bx) (bx2 : bx ≤ 31) (by_1 : 0 ≤ by_) (by_2 : by_ ≤ 31) (t1 : 0 ≤ t) (t2 : t ≤ 31) :
    Calls Tryz.prog 52 #[.int .i64 p, .agg #[.int .i64 ax, .int .i64 ay], .agg #[.int .i64 bx, .int .i64 by_], .int .i64 t] w fun e w' => e = .returned (.agg #[.int .i64 (Pl.comb p ax bx t), .int .i64 (Pl.comb p ay by_ t)]) ∧ Below w.heap.size w w' := by
  have h1 := Pl.mulA (show -31 ≤ t by omega) (show t ≤ 31 by omega) (show -31 ≤ (bx - ax) by omega) (show (bx - ax) ≤ 31 by omega)
  obtain ⟨h1a, h1b⟩ := h1
  have h2 := Pl.mulA (show -31 ≤ t by omega) (show t ≤ 31 by omega) (show -31 ≤ (by_ - ay) by omega) (show (by_ - ay) ≤ 31 by omega)
  obtain ⟨h2a, h2b⟩ := h2
  have e0 : IntKind.i64.wrap (bx - ax) = bx - ax := IntWalk.i64_in _ (by omega)
  have e1 : IntKind.i64.wrap (by_ - ay) = by_ - ay := IntWalk.i64_in _ (by omega)
  have e2 : IntKind.i64.wrap (t * (bx - ax)) = t * (bx - ax) := IntWalk.i64_in _ (by omega)
  have e3 : IntKind.i64.wrap (t * (by_ - ay)) = t * (by_ - ay) := IntWalk.i64_in _ (by omega)
  have e4 : IntKind.i64.wrap (ax + t * (bx - ax)) = ax + t * (bx - ax) := IntWalk.i64_in _ (by omega)
  have e5 : IntKind.i64.wrap (ay + t * (by_ - ay)) = ay + t * (by_ - ay) := IntWalk.i64_in _ (by omega)
  go_enter Tryz.func52, Tryz.ntmps52
  go_wp2_with fail
  go_region_held3 (fun w' => w'.cell? ⟨w.heap.size, 0, none⟩ = some (.int .i64 ax) ∧ w'.cell? ⟨w.heap.size, 1, none⟩ = some (.int .i64 ay) ∧ w'.cell? ⟨w.heap.size + 1, 0, none⟩ = some (.int .i64 bx) ∧ w'.cell? ⟨w.heap.size + 1, 1, none⟩ = some (.int .i64 by_)) (go_keep) (first | (go_at_call 87; refine (rest_any _ _ _ (by omega) (by omega)).mono ?_; rintro e w' ⟨rfl, rfl⟩))
  go_wp2_with fail
  go_returns
  exact ⟨rfl, by go_grown⟩
end Go.Proofs.YtbjcbbnfgfmllaaGreatDoor
