/- Contracts: combinations, midpoints, parallels through points, lines of numbers: exported functions of both sides. -/
import Derived.Test.YtjjidjcflimhgaaH2
import Derived.Test.YtjjidjcflimhgaaPl5
import Derived.Test.YtjjidjcflimhgaaK
set_option linter.unusedVariables false
set_option linter.unusedSimpArgs false
set_option maxRecDepth 100000
set_option maxHeartbeats 1000000
namespace Go.Proofs.Ytjjidjcflimhgaa
open Go.RowKit
theorem l01Parallel_any (p la lb lc ax ay : Int) (w : World) (hp1 : 1 ≤ p) (hp2 : p ≤ 31) (la1 : 0 ≤ la) (la2 : la ≤ 31) (lb1 : 0 ≤ lb) (lb2 : lb ≤ 31) (lc1 : 0 ≤ lc) (lc2 : lc ≤ 31) (ax1 : 0 ≤ ax) (ax2 : ax ≤ 31) (ay1 : 0 ≤ ay) (ay2 : ay ≤ 31) :
    Calls Try.prog 133 #[.int .i64 p, .agg #[.int .i64 la, .int .i64 lb, .int .i64 lc], .agg #[.int .i64 ax, .int .i64 ay]] w fun e w' => e = .returned (.agg #[.int .i64 la, .int .i64 lb, .int .i64 ((-(la * ax + lb * ay)) % p)]) ∧ Below w.heap.size w w' := by
  have h1 := Pl.mulA (show -31 ≤ -la by omega) (show -la ≤ 31 by omega) (show -31 ≤ ax by omega) (show ax ≤ 31 by omega)
  obtain ⟨h1a, h1b⟩ := h1
  have h2 := Pl.mulA (show -31 ≤ lb by omega) (show lb ≤ 31 by omega) (show -31 ≤ ay by omega) (show ay ≤ 31 by omega)
  obtain ⟨h2a, h2b⟩ := h2
  have e0 : IntKind.i64.wrap (-la) = -la := IntWalk.i64_in _ (by omega)
  have e1 : IntKind.i64.wrap (-la * ax) = -la * ax := IntWalk.i64_in _ (by omega)
  have e2 : IntKind.i64.wrap (lb * ay) = lb * ay := IntWalk.i64_in _ (by omega)
  have e3 : IntKind.i64.wrap (-la * ax - lb * ay) = -la * ax - lb * ay := IntWalk.i64_in _ (by omega)
  go_enter Try.func133, Try.ntmps133
  go_wp2_with fail
  go_region_held3 (fun w' => w'.cell? ⟨w.heap.size, 0, none⟩ = some (.int .i64 la) ∧ w'.cell? ⟨w.heap.size, 1, none⟩ = some (.int .i64 lb) ∧ w'.cell? ⟨w.heap.size, 2, none⟩ = some (.int .i64 lc) ∧ w'.cell? ⟨w.heap.size + 1, 0, none⟩ = some (.int .i64 ax) ∧ w'.cell? ⟨w.heap.size + 1, 1, none⟩ = some (.int .i64 ay)) (go_keep) (first | (go_at_call 76; refine (l01Mod_any _ _ _ (by omega) (by omega)).mono ?_; rintro e w' ⟨rfl, rfl⟩))
  go_wp2_with fail
  go_returns
  exact ⟨ret_l rfl rfl (Pl.par_neg _ _ _ _ _), by go_grown⟩
end Go.Proofs.Ytjjidjcflimhgaa
