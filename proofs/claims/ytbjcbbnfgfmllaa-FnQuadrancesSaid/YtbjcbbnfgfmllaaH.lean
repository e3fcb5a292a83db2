/- Contracts: quotients, lines that numbers make, combinations, directions, perpendicular lines, quadrances: helpers of both sides. -/
import Derived.Test.YtbjcbbnfgfmllaaG
import Derived.Test.YtbjcbbnfgfmllaaPlA
import Derived.Test.YtbjcbbnfgfmllaaC
set_option linter.unusedVariables false
set_option linter.unusedSimpArgs false
set_option maxRecDepth 100000
set_option maxHeartbeats 1000000
namespace Go.Proofs.Ytbjcbbnfgfmllaa
open Go.RowKit
theorem ret_pi {a b c d e f : Int} (h0 : a = b) (h1 : c = d) (h2 : e = f) : Ending.returned (.tuple #[.agg #[.int .i64 a, .int .i64 c], .int .i64 e]) = .returned (.tuple #[.agg #[.int .i64 b, .int .i64 d], .int .i64 f]) := by rw [h0, h1, h2]
theorem ret_li {a b c d e f g h : Int} (h0 : a = b) (h1 : c = d) (h2 : e = f) (h3 : g = h) : Ending.returned (.tuple #[.agg #[.int .i64 a, .int .i64 c, .int .i64 e], .int .i64 g]) = .returned (.tuple #[.agg #[.int .i64 b, .int .i64 d, .int .i64 f], .int .i64 h]) := by rw [h0, h1, h2, h3]
theorem ret_p {a b c d : Int} (h0 : a = b) (h1 : c = d) : Ending.returned (.agg #[.int .i64 a, .int .i64 c]) = .returned (.agg #[.int .i64 b, .int .i64 d]) := by rw [h0, h1]
theorem ret_l {a b c d e f : Int} (h0 : a = b) (h1 : c = d) (h2 : e = f) : Ending.returned (.agg #[.int .i64 a, .int .i64 c, .int .i64 e]) = .returned (.agg #[.int .i64 b, .int .i64 d, .int .i64 f]) := by rw [h0, h1, h2]
theorem divide_any (p a b : Int) (w : World) (hf : Pl.fieldB p = true) (a1 : 0 ≤ a) (a2 : a ≤ 961) (b1 : 0 ≤ b) (b2 : b < p) :
    Calls Try.prog 69 #[.int .i64 p, .int .i64 a, .int .i64 b] w fun e w' => e = .returned (.int .i64 ((a * Pl.inv p b) % p)) ∧ w = w' := by
  have hp := Pl.field_bd hf
  obtain ⟨hp1, hp2⟩ := hp
  have hi := Pl.inv_facts hf b1 b2
  obtain ⟨_, hi1, hi2, _⟩ := hi
  have h1 := Pl.mulB (show 0 ≤ a by omega) (show a ≤ 961 by omega) (show 0 ≤ (Pl.inv p b) by omega) (show (Pl.inv p b) ≤ 31 by omega)
  obtain ⟨h1a, h1b⟩ := h1
  clear hf
  go_enter Try.func69, Try.ntmps69
  go_wp2_with (first | (go_at_call 148; refine (inverse_any _ _ _ (by omega) (by omega) (by omega) (by omega)).mono ?_; rintro e w' ⟨rfl, rfl⟩) | (go_at_call 70; refine (rest_any _ _ _ (by omega) (by omega)).mono ?_; rintro e w' ⟨rfl, rfl⟩))
  go_ret
  exact ⟨rfl, rfl⟩
theorem l01Minus_any (p ax ay bx by_ : Int) (w : World) (hp1 : 1 ≤ p) (hp2 : p ≤ 31) (ax1 : 0 ≤ ax) (ax2 : ax ≤ 31) (ay1 : 0 ≤ ay) (ay2 : ay ≤ 31) (bx1 : 0 ≤ bx) (bx2 : bx ≤ 31) (by_1 : 0 ≤ by_) (by_2 : by_ ≤ 31) :
    Calls Try.prog 152 #[.int .i64 p, .agg #[.int .i64 ax, .int .i64 ay], .agg #[.int .i64 bx, .int .i64 by_]] w fun e w' => e = .returned (.agg #[.int .i64 ((ax - bx) % p), .int .i64 ((ay - by_) % p)]) ∧ Below w.heap.size w w' := by
  have e0 : IntKind.i64.wrap (ax - bx) = ax - bx := IntWalk.i64_in _ (by omega)
  have e1 : IntKind.i64.wrap (ay - by_) = ay - by_ := IntWalk.i64_in _ (by omega)
  go_enter Try.func152, Try.ntmps152
  go_wp2_with fail
  go_region_held3 (fun w' => w'.cell? ⟨w.heap.size, 0, none⟩ = some (.int .i64 ax) ∧ w'.cell? ⟨w.heap.size, 1, none⟩ = some (.int .i64 ay) ∧ w'.cell? ⟨w.heap.size + 1, 0, none⟩ = some (.int .i64 bx) ∧ w'.cell? ⟨w.heap.size + 1, 1, none⟩ = some (.int .i64 by_)) (go_keep) (first | (go_at_call 71; refine (l01Mod_any _ _ _ (by omega) (by omega)).mono ?_; rintro e w' ⟨rfl, rfl⟩))
  go_wp2_with fail
  go_returns
  exact ⟨rfl, by go_grown⟩
theorem l01Plus_any (p ax ay bx by_ : Int) (w : World) (hp1 : 1 ≤ p) (hp2 : p ≤ 31) (ax1 : 0 ≤ ax) (ax2 : ax ≤ 31) (ay1 : 0 ≤ ay) (ay2 : ay ≤ 31) (bx1 : 0 ≤ bx) (bx2 : bx ≤ 31) (by_1 : 0 ≤ by_) (by_2 : by_ ≤ 31) :
    Calls Try.prog 150 #[.int .i64 p, .agg #[.int .i64 ax, .int .i64 ay], .agg #[.int .i64 bx, .int .i64 by_]] w fun e w' => e = .returned (.agg #[.int .i64 ((ax + bx) % p), .int .i64 ((ay + by_) % p)]) ∧ Below w.heap.size w w' := by
  have e0 : IntKind.i64.wrap (ax + bx) = ax + bx := IntWalk.i64_in _ (by omega)
  have e1 : IntKind.i64.wrap (ay + by_) = ay + by_ := IntWalk.i64_in _ (by omega)
  go_enter Try.func150, Try.ntmps150
  go_wp2_with fail
  go_region_held3 (fun w' => w'.cell? ⟨w.heap.size, 0, none⟩ = some (.int .i64 ax) ∧ w'.cell? ⟨w.heap.size, 1, none⟩ = some (.int .i64 ay) ∧ w'.cell? ⟨w.heap.size + 1, 0, none⟩ = some (.int .i64 bx) ∧ w'.cell? ⟨w.heap.size + 1, 1, none⟩ = some (.int .i64 by_)) (go_keep) (first | (go_at_call 71; refine (l01Mod_any _ _ _ (by omega) (by omega)).mono ?_; rintro e w' ⟨rfl, rfl⟩))
  go_wp2_with fail
  go_returns
  exact ⟨rfl, by go_grown⟩
theorem l01Times_any (p t ax ay : Int) (w : World) (hp1 : 1 ≤ p) (hp2 : p ≤ 31) (t1 : 0 ≤ t) (t2 : t ≤ 31) (ax1 : 0 ≤ ax) (ax2 : ax ≤ 31) (ay1 : 0 ≤ ay) (ay2 : ay ≤ 31) :
    Calls Try.prog 151 #[.int .i64 p, .int .i64 t, .agg #[.int .i64 ax, .int .i64 ay]] w fun e w' => e = .returned (.agg #[.int .i64 ((t * ax) % p), .int .i64 ((t * ay) % p)]) ∧ Below w.heap.size w w' := by
  have h1 := Pl.mulB (show 0 ≤ t by omega) (show t ≤ 31 by omega) (show 0 ≤ ax by omega) (show ax ≤ 31 by omega)
  obtain ⟨h1a, h1b⟩ := h1
  have h2 := Pl.mulB (show 0 ≤ t by omega) (show t ≤ 31 by omega) (show 0 ≤ ay by omega) (show ay ≤ 31 by omega)
  obtain ⟨h2a, h2b⟩ := h2
  have e0 : IntKind.i64.wrap (t * ax) = t * ax := IntWalk.i64_in _ (by omega)
  have e1 : IntKind.i64.wrap (t * ay) = t * ay := IntWalk.i64_in _ (by omega)
  go_enter Try.func151, Try.ntmps151
  go_wp2_with fail
  go_region_held3 (fun w' => w'.cell? ⟨w.heap.size, 0, none⟩ = some (.int .i64 ax) ∧ w'.cell? ⟨w.heap.size, 1, none⟩ = some (.int .i64 ay)) (go_keep) (first | (go_at_call 71; refine (l01Mod_any _ _ _ (by omega) (by omega)).mono ?_; rintro e w' ⟨rfl, rfl⟩))
  go_wp2_with fail
  go_returns
  exact ⟨rfl, by go_grown⟩
theorem l02Direction_any (p la lb lc : Int) (w : World) (hp1 : 1 ≤ p) (hp2 : p ≤ 31) (la1 : 0 ≤ la) (la2 : la ≤ 31) (lb1 : 0 ≤ lb) (lb2 : lb ≤ 31) (lc1 : 0 ≤ lc) (lc2 : lc ≤ 31) :
    Calls Try.prog 127 #[.int .i64 p, .agg #[.int .i64 la, .int .i64 lb, .int .i64 lc]] w fun e w' => e = .returned (.agg #[.int .i64 ((-lb) % p), .int .i64 (la)]) ∧ Below w.heap.size w w' := by
  have e0 : IntKind.i64.wrap (-lb) = -lb := IntWalk.i64_in _ (by omega)
  go_enter Try.func127, Try.ntmps127
  go_wp2_with fail
  go_region_held3 (fun w' => w'.cell? ⟨w.heap.size, 0, none⟩ = some (.int .i64 la) ∧ w'.cell? ⟨w.heap.size, 1, none⟩ = some (.int .i64 lb) ∧ w'.cell? ⟨w.heap.size, 2, none⟩ = some (.int .i64 lc)) (go_keep) (first | (go_at_call 71; refine (l01Mod_any _ _ _ (by omega) (by omega)).mono ?_; rintro e w' ⟨rfl, rfl⟩))
  go_wp2_with fail
  go_returns
  exact ⟨rfl, by go_grown⟩
theorem way_any (p la lb lc : Int) (w : World) (hp1 : 1 ≤ p) (hp2 : p ≤ 31) (la1 : 0 ≤ la) (la2 : la ≤ 31) (lb1 : 0 ≤ lb) (lb2 : lb ≤ 31) (lc1 : 0 ≤ lc) (lc2 : lc ≤ 31) :
    Calls Try.prog 147 #[.int .i64 p, .agg #[.int .i64 la, .int .i64 lb, .int .i64 lc]] w fun e w' => e = .returned (.agg #[.int .i64 ((-lb) % p), .int .i64 (la)]) ∧ Below w.heap.size w w' := by
  have e0 : IntKind.i64.wrap (-lb) = -lb := IntWalk.i64_in _ (by omega)
  go_enter Try.func147, Try.ntmps147
  go_wp2_with fail
  go_region_held3 (fun w' => w'.cell? ⟨w.heap.size, 0, none⟩ = some (.int .i64 la) ∧ w'.cell? ⟨w.heap.size, 1, none⟩ = some (.int .i64 lb) ∧ w'.cell? ⟨w.heap.size, 2, none⟩ = some (.int .i64 lc)) (go_keep) (first | (go_at_call 70; refine (rest_any _ _ _ (by omega) (by omega)).mono ?_; rintro e w' ⟨rfl, rfl⟩))
  go_wp2_with fail
  go_returns
  exact ⟨rfl, by go_grown⟩
end Go.Proofs.Ytbjcbbnfgfmllaa
