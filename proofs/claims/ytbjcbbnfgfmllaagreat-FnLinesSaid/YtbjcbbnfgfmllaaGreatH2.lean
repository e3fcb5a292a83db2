/- Contracts: lines that numbers make, perpendicular and null lines, quadrances, right angles. -/
import Derived.Test.YtbjcbbnfgfmllaaGreatH
set_option linter.unusedVariables false
set_option linter.unusedSimpArgs false
set_option maxRecDepth 100000
set_option maxHeartbeats 1000000
namespace Go.Proofs.YtbjcbbnfgfmllaaGreat
open Go.RowKit
theorem makeLine_any (p a b c : Int) (w : World) (hf : Pl.fieldB p = true) (a1 : -4000 ≤ a) (a2 : a ≤ 4000) (b1 : -4000 ≤ b) (b2 : b ≤ 4000) (c1 : -4000 ≤ c) (c2 : c ≤ 4000) :
    Calls Tryz.prog 64 #[.int .i64 p, .int .i64 a, .int .i64 b, .int .i64 c] w fun e w' => e = .returned (.agg #[.int .i64 (Pl.nrm p a b a), .int .i64 (Pl.nrm p a b b), .int .i64 (Pl.nrm p a b c)]) ∧ Below w.heap.size w w' := by
  have hp := Pl.field_bd hf
  obtain ⟨hp1, hp2⟩ := hp
  have ran := Int.emod_nonneg (a) (show p ≠ 0 by omega)
  have ral := Int.emod_lt_of_pos (a) (show 0 < p by omega)
  have rbn := Int.emod_nonneg (b) (show p ≠ 0 by omega)
  have rbl := Int.emod_lt_of_pos (b) (show 0 < p by omega)
  have rcn := Int.emod_nonneg (c) (show p ≠ 0 by omega)
  have rcl := Int.emod_lt_of_pos (c) (show 0 < p by omega)
  by_cases h0 : a % p = 0
  · have f0 : (a % p == 0) = true := by simpa using h0
    have H0 := hid h0
    clear h0
    go_enter Tryz.func64, Tryz.ntmps64
    go_wp2_with (first | (go_at_call 96; refine (rest_any _ _ _ (by omega) (by omega)).mono ?_; rintro e w' ⟨rfl, rfl⟩) | (go_at_call 99; refine (divide_any _ _ _ _ hf (by omega) (by omega) (by omega) (by omega)).mono ?_; rintro e w' ⟨rfl, rfl⟩))
    go_returns
    exact ⟨ret_l (Pl.nrm_z H0.out) (Pl.nrm_z H0.out) (Pl.nrm_z H0.out), by go_grown⟩
  · have f0 : (a % p == 0) = false := by simpa using h0
    have H0 := hid h0
    clear h0
    go_enter Tryz.func64, Tryz.ntmps64
    go_wp2_with (first | (go_at_call 96; refine (rest_any _ _ _ (by omega) (by omega)).mono ?_; rintro e w' ⟨rfl, rfl⟩) | (go_at_call 99; refine (divide_any _ _ _ _ hf (by omega) (by omega) (by omega) (by omega)).mono ?_; rintro e w' ⟨rfl, rfl⟩))
    go_returns
    exact ⟨ret_l (Pl.nrm_n H0.out) (Pl.nrm_n H0.out) (Pl.nrm_n H0.out), by go_grown⟩
theorem l01Normal_any (p a b c : Int) (w : World) (hf : Pl.fieldB p = true) (a1 : -4000 ≤ a) (a2 : a ≤ 4000) (b1 : -4000 ≤ b) (b2 : b ≤ 4000) (c1 : -4000 ≤ c) (c2 : c ≤ 4000) :
    Calls Tryz.prog 75 #[.int .i64 p, .int .i64 a, .int .i64 b, .int .i64 c] w fun e w' => e = .returned (.agg #[.int .i64 (Pl.nrm p a b a), .int .i64 (Pl.nrm p a b b), .int .i64 (Pl.nrm p a b c)]) ∧ Below w.heap.size w w' := by
  have hp := Pl.field_bd hf
  obtain ⟨hp1, hp2⟩ := hp
  have ran := Int.emod_nonneg (a) (show p ≠ 0 by omega)
  have ral := Int.emod_lt_of_pos (a) (show 0 < p by omega)
  have rbn := Int.emod_nonneg (b) (show p ≠ 0 by omega)
  have rbl := Int.emod_lt_of_pos (b) (show 0 < p by omega)
  by_cases h0 : a % p = 0
  · have f0 : (a % p == 0) = true := by simpa using h0
    have hi := Pl.inv_bd (a := b) hf
    have m0 := Pl.mulA (show -4000 ≤ a by omega) (show a ≤ 4000 by omega) (show -31 ≤ Pl.inv p (b % p) by omega) (show Pl.inv p (b % p) ≤ 31 by omega)
    obtain ⟨m0a, m0b⟩ := m0
    have e0 : IntKind.i64.wrap (a * Pl.inv p (b % p)) = a * Pl.inv p (b % p) := IntWalk.i64_in _ (by omega)
    have m1 := Pl.mulA (show -4000 ≤ b by omega) (show b ≤ 4000 by omega) (show -31 ≤ Pl.inv p (b % p) by omega) (show Pl.inv p (b % p) ≤ 31 by omega)
    obtain ⟨m1a, m1b⟩ := m1
    have e1 : IntKind.i64.wrap (b * Pl.inv p (b % p)) = b * Pl.inv p (b % p) := IntWalk.i64_in _ (by omega)
    have m2 := Pl.mulA (show -4000 ≤ c by omega) (show c ≤ 4000 by omega) (show -31 ≤ Pl.inv p (b % p) by omega) (show Pl.inv p (b % p) ≤ 31 by omega)
    obtain ⟨m2a, m2b⟩ := m2
    have e2 : IntKind.i64.wrap (c * Pl.inv p (b % p)) = c * Pl.inv p (b % p) := IntWalk.i64_in _ (by omega)
    have H0 := hid h0
    clear h0 hi
    go_enter Tryz.func75, Tryz.ntmps75
    go_wp2_with (first | (go_at_call 101; refine (l01Mod_any _ _ _ (by omega) (by omega)).mono ?_; rintro e w' ⟨rfl, rfl⟩) | (go_at_call 102; refine (l01Inverse_any _ _ _ hf).mono ?_; rintro e w' ⟨rfl, rfl⟩))
    go_returns
    exact ⟨ret_l (Pl.nrm_zs H0.out) (Pl.nrm_zs H0.out) (Pl.nrm_zs H0.out), by go_grown⟩
  · have f0 : (a % p == 0) = false := by simpa using h0
    have hi := Pl.inv_bd (a := a) hf
    have m0 := Pl.mulA (show -4000 ≤ a by omega) (show a ≤ 4000 by omega) (show -31 ≤ Pl.inv p (a % p) by omega) (show Pl.inv p (a % p) ≤ 31 by omega)
    obtain ⟨m0a, m0b⟩ := m0
    have e0 : IntKind.i64.wrap (a * Pl.inv p (a % p)) = a * Pl.inv p (a % p) := IntWalk.i64_in _ (by omega)
    have m1 := Pl.mulA (show -4000 ≤ b by omega) (show b ≤ 4000 by omega) (show -31 ≤ Pl.inv p (a % p) by omega) (show Pl.inv p (a % p) ≤ 31 by omega)
    obtain ⟨m1a, m1b⟩ := m1
    have e1 : IntKind.i64.wrap (b * Pl.inv p (a % p)) = b * Pl.inv p (a % p) := IntWalk.i64_in _ (by omega)
    have m2 := Pl.mulA (show -4000 ≤ c by omega) (show c ≤ 4000 by omega) (show -31 ≤ Pl.inv p (a % p) by omega) (show Pl.inv p (a % p) ≤ 31 by omega)
    obtain ⟨m2a, m2b⟩ := m2
    have e2 : IntKind.i64.wrap (c * Pl.inv p (a % p)) = c * Pl.inv p (a % p) := IntWalk.i64_in _ (by omega)
    have H0 := hid h0
    clear h0 hi
    go_enter Tryz.func75, Tryz.ntmps75
    go_wp2_with (first | (go_at_call 101; refine (l01Mod_any _ _ _ (by omega) (by omega)).mono ?_; rintro e w' ⟨rfl, rfl⟩) | (go_at_call 102; refine (l01Inverse_any _ _ _ hf).mono ?_; rintro e w' ⟨rfl, rfl⟩))
    go_returns
    exact ⟨ret_l (Pl.nrm_ns H0.out) (Pl.nrm_ns H0.out) (Pl.nrm_ns H0.out), by go_grown⟩
end Go.Proofs.YtbjcbbnfgfmllaaGreat
