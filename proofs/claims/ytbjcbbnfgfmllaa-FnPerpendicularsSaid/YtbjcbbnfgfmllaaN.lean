/- Contracts: meets, lines through points: both sides. -/
import Derived.Test.YtbjcbbnfgfmllaaH2
import Derived.Test.YtbjcbbnfgfmllaaPlA
import Derived.Test.YtbjcbbnfgfmllaaK
import Derived.Test.YtbjcbbnfgfmllaaAgg
set_option linter.unusedVariables false
set_option linter.unusedSimpArgs false
set_option maxHeartbeats 1000000
set_option maxRecDepth 100000
namespace Go.Proofs.Ytbjcbbnfgfmllaa
open Go.RowKit
theorem ret_pb {a b c d : Int} {t : Bool} (h0 : a = b) (h1 : c = d) : Ending.returned (.tuple #[.agg #[.int .i64 a, .int .i64 c], .bool t]) = .returned (.tuple #[.agg #[.int .i64 b, .int .i64 d], .bool t]) := by rw [h0, h1]
theorem meet_any (p la lb lc ma mb mc : Int) (w : World) (hf : Pl.fieldB p = true) (la1 : 0 ≤ la) (la2 : la ≤ 31) (lb1 : 0 ≤ lb) (lb2 : lb ≤ 31) (lc1 : 0 ≤ lc) (lc2 : lc ≤ 31) (ma1 : 0 ≤ ma) (ma2 : ma ≤ 31) (mb1 : 0 ≤ mb) (mb2 : mb ≤ 31) (mc1 : 0 ≤ mc) (mc2 : mc ≤ 31) :
    Calls Try.prog 166 #[.int .i64 p, .agg #[.int .i64 la, .int .i64 lb, .int .i64 lc], .agg #[.int .i64 ma, .int .i64 mb, .int .i64 mc]] w fun e w' => e = .returned (.agg #[.int .i64 (Pl.meetX p la lb lc ma mb mc), .int .i64 (Pl.meetY p la lb lc ma mb mc)]) ∧ Below w.heap.size w w' := by
  have hp := Pl.field_bd hf
  obtain ⟨hp1, hp2⟩ := hp
  have h0 := Pl.mulA (show -31 ≤ la by omega) (show la ≤ 31 by omega) (show -31 ≤ mb by omega) (show mb ≤ 31 by omega)
  obtain ⟨h0a, h0b⟩ := h0
  have h1 := Pl.mulA (show -31 ≤ lb by omega) (show lb ≤ 31 by omega) (show -31 ≤ ma by omega) (show ma ≤ 31 by omega)
  obtain ⟨h1a, h1b⟩ := h1
  have h2 := Pl.mulA (show -31 ≤ lb by omega) (show lb ≤ 31 by omega) (show -31 ≤ mc by omega) (show mc ≤ 31 by omega)
  obtain ⟨h2a, h2b⟩ := h2
  have h3 := Pl.mulA (show -31 ≤ lc by omega) (show lc ≤ 31 by omega) (show -31 ≤ mb by omega) (show mb ≤ 31 by omega)
  obtain ⟨h3a, h3b⟩ := h3
  have h4 := Pl.mulA (show -31 ≤ lc by omega) (show lc ≤ 31 by omega) (show -31 ≤ ma by omega) (show ma ≤ 31 by omega)
  obtain ⟨h4a, h4b⟩ := h4
  have h5 := Pl.mulA (show -31 ≤ la by omega) (show la ≤ 31 by omega) (show -31 ≤ mc by omega) (show mc ≤ 31 by omega)
  obtain ⟨h5a, h5b⟩ := h5
  have dn := Int.emod_nonneg (la * mb - lb * ma) (show p ≠ 0 by omega)
  have dl := Int.emod_lt_of_pos (la * mb - lb * ma) (show 0 < p by omega)
  have xn := Int.emod_nonneg (lb * mc - lc * mb) (show p ≠ 0 by omega)
  have xl := Int.emod_lt_of_pos (lb * mc - lc * mb) (show 0 < p by omega)
  have yn := Int.emod_nonneg (lc * ma - la * mc) (show p ≠ 0 by omega)
  have yl := Int.emod_lt_of_pos (lc * ma - la * mc) (show 0 < p by omega)
  have e0 : IntKind.i64.wrap (la * mb) = la * mb := IntWalk.i64_in _ (by omega)
  have e1 : IntKind.i64.wrap (lb * ma) = lb * ma := IntWalk.i64_in _ (by omega)
  have e2 : IntKind.i64.wrap (lb * mc) = lb * mc := IntWalk.i64_in _ (by omega)
  have e3 : IntKind.i64.wrap (lc * mb) = lc * mb := IntWalk.i64_in _ (by omega)
  have e4 : IntKind.i64.wrap (lc * ma) = lc * ma := IntWalk.i64_in _ (by omega)
  have e5 : IntKind.i64.wrap (la * mc) = la * mc := IntWalk.i64_in _ (by omega)
  have e6 : IntKind.i64.wrap (la * mb - lb * ma) = la * mb - lb * ma := IntWalk.i64_in _ (by omega)
  have e7 : IntKind.i64.wrap (lb * mc - lc * mb) = lb * mc - lc * mb := IntWalk.i64_in _ (by omega)
  have e8 : IntKind.i64.wrap (lc * ma - la * mc) = lc * ma - la * mc := IntWalk.i64_in _ (by omega)
  go_enter Try.func166, Try.ntmps166
  go_wp2_with (go_at_call 70; refine (rest_any _ _ _ (by omega) (by omega)).mono ?_; rintro e w' ⟨rfl, rfl⟩)
  go_region_held3 (fun w' => w'.cell? ⟨w.heap.size, 0, none⟩ = some (.int .i64 la) ∧ w'.cell? ⟨w.heap.size, 1, none⟩ = some (.int .i64 lb) ∧ w'.cell? ⟨w.heap.size, 2, none⟩ = some (.int .i64 lc) ∧ w'.cell? ⟨w.heap.size + 1, 0, none⟩ = some (.int .i64 ma) ∧ w'.cell? ⟨w.heap.size + 1, 1, none⟩ = some (.int .i64 mb) ∧ w'.cell? ⟨w.heap.size + 1, 2, none⟩ = some (.int .i64 mc)) (go_keep) (first | (go_at_call 70; refine (rest_any _ _ _ (by omega) (by omega)).mono ?_; rintro e w' ⟨rfl, rfl⟩) | (go_at_call 69; refine (divide_any _ _ _ _ hf (by omega) (by omega) (by omega) (by omega)).mono ?_; rintro e w' ⟨rfl, rfl⟩))
  go_wp2_with fail
  go_returns
  exact ⟨ret_p (Pl.meetX_i _ _ _ _ _ _ _) (Pl.meetY_i _ _ _ _ _ _ _), by go_grown⟩
theorem l01Meet_z (p la lb lc ma mb mc : Int) (w : World) (hf : Pl.fieldB p = true) (la1 : 0 ≤ la) (la2 : la ≤ 31) (lb1 : 0 ≤ lb) (lb2 : lb ≤ 31) (lc1 : 0 ≤ lc) (lc2 : lc ≤ 31) (ma1 : 0 ≤ ma) (ma2 : ma ≤ 31) (mb1 : 0 ≤ mb) (mb2 : mb ≤ 31) (mc1 : 0 ≤ mc) (mc2 : mc ≤ 31) (hpar : Pl.parB p la lb ma mb = true) :
    Calls Try.prog 167 #[.int .i64 p, .agg #[.int .i64 la, .int .i64 lb, .int .i64 lc], .agg #[.int .i64 ma, .int .i64 mb, .int .i64 mc]] w fun e w' => e = .returned (.tuple #[.agg #[.int .i64 0, .int .i64 0], .bool false]) ∧ Below w.heap.size w w' := by
  have hp := Pl.field_bd hf
  obtain ⟨hp1, hp2⟩ := hp
  have h0 := Pl.mulA (show -31 ≤ la by omega) (show la ≤ 31 by omega) (show -31 ≤ mb by omega) (show mb ≤ 31 by omega)
  obtain ⟨h0a, h0b⟩ := h0
  have h1 := Pl.mulA (show -31 ≤ lb by omega) (show lb ≤ 31 by omega) (show -31 ≤ ma by omega) (show ma ≤ 31 by omega)
  obtain ⟨h1a, h1b⟩ := h1
  have h2 := Pl.mulA (show -31 ≤ lb by omega) (show lb ≤ 31 by omega) (show -31 ≤ mc by omega) (show mc ≤ 31 by omega)
  obtain ⟨h2a, h2b⟩ := h2
  have h3 := Pl.mulA (show -31 ≤ mb by omega) (show mb ≤ 31 by omega) (show -31 ≤ lc by omega) (show lc ≤ 31 by omega)
  obtain ⟨h3a, h3b⟩ := h3
  have h4 := Pl.mulA (show -31 ≤ ma by omega) (show ma ≤ 31 by omega) (show -31 ≤ lc by omega) (show lc ≤ 31 by omega)
  obtain ⟨h4a, h4b⟩ := h4
  have h5 := Pl.mulA (show -31 ≤ la by omega) (show la ≤ 31 by omega) (show -31 ≤ mc by omega) (show mc ≤ 31 by omega)
  obtain ⟨h5a, h5b⟩ := h5
  have dn := Int.emod_nonneg (la * mb - lb * ma) (show p ≠ 0 by omega)
  have dl := Int.emod_lt_of_pos (la * mb - lb * ma) (show 0 < p by omega)
  have e0 : IntKind.i64.wrap (la * mb) = la * mb := IntWalk.i64_in _ (by omega)
  have e1 : IntKind.i64.wrap (lb * ma) = lb * ma := IntWalk.i64_in _ (by omega)
  have e2 : IntKind.i64.wrap (lb * mc) = lb * mc := IntWalk.i64_in _ (by omega)
  have e3 : IntKind.i64.wrap (mb * lc) = mb * lc := IntWalk.i64_in _ (by omega)
  have e4 : IntKind.i64.wrap (ma * lc) = ma * lc := IntWalk.i64_in _ (by omega)
  have e5 : IntKind.i64.wrap (la * mc) = la * mc := IntWalk.i64_in _ (by omega)
  have e6 : IntKind.i64.wrap (la * mb - lb * ma) = la * mb - lb * ma := IntWalk.i64_in _ (by omega)
  have hpar2 : ((la * mb - lb * ma) % p == 0) = true := hpar
  clear hpar
  go_enter Try.func167, Try.ntmps167
  go_wp2_with (go_at_call 71; refine (l01Mod_any _ _ _ (by omega) (by omega)).mono ?_; rintro e w' ⟨rfl, rfl⟩)
  go_returns
  exact ⟨rfl, by go_grown⟩
theorem l01Meet_n (p la lb lc ma mb mc : Int) (w : World) (hf : Pl.fieldB p = true) (la1 : 0 ≤ la) (la2 : la ≤ 31) (lb1 : 0 ≤ lb) (lb2 : lb ≤ 31) (lc1 : 0 ≤ lc) (lc2 : lc ≤ 31) (ma1 : 0 ≤ ma) (ma2 : ma ≤ 31) (mb1 : 0 ≤ mb) (mb2 : mb ≤ 31) (mc1 : 0 ≤ mc) (mc2 : mc ≤ 31) (hpar : Pl.parB p la lb ma mb = false) :
    Calls Try.prog 167 #[.int .i64 p, .agg #[.int .i64 la, .int .i64 lb, .int .i64 lc], .agg #[.int .i64 ma, .int .i64 mb, .int .i64 mc]] w fun e w' => e = .returned (.tuple #[.agg #[.int .i64 (Pl.meetX p la lb lc ma mb mc), .int .i64 (Pl.meetY p la lb lc ma mb mc)], .bool true]) ∧ Below w.heap.size w w' := by
  have hp := Pl.field_bd hf
  obtain ⟨hp1, hp2⟩ := hp
  have h0 := Pl.mulA (show -31 ≤ la by omega) (show la ≤ 31 by omega) (show -31 ≤ mb by omega) (show mb ≤ 31 by omega)
  obtain ⟨h0a, h0b⟩ := h0
  have h1 := Pl.mulA (show -31 ≤ lb by omega) (show lb ≤ 31 by omega) (show -31 ≤ ma by omega) (show ma ≤ 31 by omega)
  obtain ⟨h1a, h1b⟩ := h1
  have h2 := Pl.mulA (show -31 ≤ lb by omega) (show lb ≤ 31 by omega) (show -31 ≤ mc by omega) (show mc ≤ 31 by omega)
  obtain ⟨h2a, h2b⟩ := h2
  have h3 := Pl.mulA (show -31 ≤ mb by omega) (show mb ≤ 31 by omega) (show -31 ≤ lc by omega) (show lc ≤ 31 by omega)
  obtain ⟨h3a, h3b⟩ := h3
  have h4 := Pl.mulA (show -31 ≤ ma by omega) (show ma ≤ 31 by omega) (show -31 ≤ lc by omega) (show lc ≤ 31 by omega)
  obtain ⟨h4a, h4b⟩ := h4
  have h5 := Pl.mulA (show -31 ≤ la by omega) (show la ≤ 31 by omega) (show -31 ≤ mc by omega) (show mc ≤ 31 by omega)
  obtain ⟨h5a, h5b⟩ := h5
  have dn := Int.emod_nonneg (la * mb - lb * ma) (show p ≠ 0 by omega)
  have dl := Int.emod_lt_of_pos (la * mb - lb * ma) (show 0 < p by omega)
  have hi := Pl.inv_bd (a := la * mb - lb * ma) hf
  obtain ⟨hi1, hi2⟩ := hi
  generalize hI : Pl.inv p ((la * mb - lb * ma) % p) = iv at *
  have qx : -31 ≤ Int.tmod (lb * mc - mb * lc) p ∧ Int.tmod (lb * mc - mb * lc) p ≤ 31 := by have h1 := Int.tmod_lt_of_pos (lb * mc - mb * lc) (show 0 < p by omega); have h2 := Int.lt_tmod_of_pos (lb * mc - mb * lc) (show 0 < p by omega); omega
  obtain ⟨qx1, qx2⟩ := qx
  have mx := Pl.mulA (show -31 ≤ (Int.tmod (lb * mc - mb * lc) p) by omega) (show (Int.tmod (lb * mc - mb * lc) p) ≤ 31 by omega) (show -31 ≤ iv by omega) (show iv ≤ 31 by omega)
  obtain ⟨mxa, mxb⟩ := mx
  have emx : IntKind.i64.wrap (Int.tmod (lb * mc - mb * lc) p * iv) = Int.tmod (lb * mc - mb * lc) p * iv := IntWalk.i64_in _ (by omega)
  have qy : -31 ≤ Int.tmod (ma * lc - la * mc) p ∧ Int.tmod (ma * lc - la * mc) p ≤ 31 := by have h1 := Int.tmod_lt_of_pos (ma * lc - la * mc) (show 0 < p by omega); have h2 := Int.lt_tmod_of_pos (ma * lc - la * mc) (show 0 < p by omega); omega
  obtain ⟨qy1, qy2⟩ := qy
  have my := Pl.mulA (show -31 ≤ (Int.tmod (ma * lc - la * mc) p) by omega) (show (Int.tmod (ma * lc - la * mc) p) ≤ 31 by omega) (show -31 ≤ iv by omega) (show iv ≤ 31 by omega)
  obtain ⟨mya, myb⟩ := my
  have emy : IntKind.i64.wrap (Int.tmod (ma * lc - la * mc) p * iv) = Int.tmod (ma * lc - la * mc) p * iv := IntWalk.i64_in _ (by omega)
  have hp0 : ¬ p = 0 := by omega
  have e0 : IntKind.i64.wrap (la * mb) = la * mb := IntWalk.i64_in _ (by omega)
  have e1 : IntKind.i64.wrap (lb * ma) = lb * ma := IntWalk.i64_in _ (by omega)
  have e2 : IntKind.i64.wrap (lb * mc) = lb * mc := IntWalk.i64_in _ (by omega)
  have e3 : IntKind.i64.wrap (mb * lc) = mb * lc := IntWalk.i64_in _ (by omega)
  have e4 : IntKind.i64.wrap (ma * lc) = ma * lc := IntWalk.i64_in _ (by omega)
  have e5 : IntKind.i64.wrap (la * mc) = la * mc := IntWalk.i64_in _ (by omega)
  have e6 : IntKind.i64.wrap (la * mb - lb * ma) = la * mb - lb * ma := IntWalk.i64_in _ (by omega)
  have e7 : IntKind.i64.wrap (lb * mc - mb * lc) = lb * mc - mb * lc := IntWalk.i64_in _ (by omega)
  have e8 : IntKind.i64.wrap (ma * lc - la * mc) = ma * lc - la * mc := IntWalk.i64_in _ (by omega)
  have hpar2 : ((la * mb - lb * ma) % p == 0) = false := hpar
  clear hpar
  go_enter Try.func167, Try.ntmps167
  go_wp2_with (first | (go_at_call 71; refine (l01Mod_any _ _ _ (by omega) (by omega)).mono ?_; rintro e w' ⟨rfl, rfl⟩) | (go_at_call 72; refine (l01Inverse_any _ _ _ hf).mono ?_; rintro e w' ⟨rfl, rfl⟩; try simp only [Int.emod_emod, hI]))
  go_region_held3 (fun w' => w'.cell? ⟨w.heap.size, 0, none⟩ = some (.int .i64 la) ∧ w'.cell? ⟨w.heap.size, 1, none⟩ = some (.int .i64 lb) ∧ w'.cell? ⟨w.heap.size, 2, none⟩ = some (.int .i64 lc) ∧ w'.cell? ⟨w.heap.size + 1, 0, none⟩ = some (.int .i64 ma) ∧ w'.cell? ⟨w.heap.size + 1, 1, none⟩ = some (.int .i64 mb) ∧ w'.cell? ⟨w.heap.size + 1, 2, none⟩ = some (.int .i64 mc)) (go_keep) (first | (go_at_call 71; refine (l01Mod_any _ _ _ (by omega) (by omega)).mono ?_; rintro e w' ⟨rfl, rfl⟩))
  go_wp2_with fail
  go_returns
  subst hI
  exact ⟨ret_pb (Pl.meetX_s _ _ _ _ _ _ _ (by omega)) (Pl.meetY_s _ _ _ _ _ _ _ (by omega)), by go_grown⟩
end Go.Proofs.Ytbjcbbnfgfmllaa
