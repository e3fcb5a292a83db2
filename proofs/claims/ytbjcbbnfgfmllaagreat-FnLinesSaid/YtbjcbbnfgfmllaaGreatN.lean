/- Contracts: meets, lines through points: both sides. -/
import Derived.Test.YtbjcbbnfgfmllaaGreatH2
import Derived.Test.YtbjcbbnfgfmllaaGreatPlA
import Derived.Test.YtbjcbbnfgfmllaaGreatK
import Derived.Test.YtbjcbbnfgfmllaaGreatAgg
set_option linter.unusedVariables false
set_option linter.unusedSimpArgs false
set_option maxHeartbeats 1000000
set_option maxRecDepth 100000
namespace Go.Proofs.YtbjcbbnfgfmllaaGreat
open Go.RowKit
theorem ret_pb {a b c d : Int} {t : Bool} (h0 : a = b) (h1 : c = d) : Ending.returned (.tuple #[.agg #[.int .i64 a, .int .i64 c], .bool t]) = .returned (.tuple #[.agg #[.int .i64 b, .int .i64 d], .bool t]) := by rw [h0, h1]
theorem meet_any (p la lb lc ma mb mc : Int) (w : World) (hf : Pl.fieldB p = true) (la1 : 0 ≤ la) (la2 : la ≤ 31) (lb1 : 0 ≤ lb) (lb2 : lb ≤ 31) (lc1 : 0 ≤ lc) (lc2 : lc ≤ 31) (ma1 : 0 ≤ ma) (ma2 : ma ≤ 31) (mb1 : 0 ≤ mb) (mb2 : mb ≤ 31) (mc1 : 0 ≤ mc) (mc2 : mc ≤ 31) :
    Calls Tryz.prog 58 #[.int .i64 p, .agg #[.int .i64 la, .int .i64 lb, .int .i64 lc], .agg #[.int .i64 ma, .int .i64 mb, .int .i64 mc]] w fun e w' => e = .returned (.agg #[.int .i64 (Pl.meetX p la lb lc ma mb mc), .int .i64 (Pl.meetY p la lb lc ma mb mc)]) ∧ Below w.heap.size w w' := by
  have hp := Pl.field_bd hf
  obtain ⟨hp1, hp2⟩ := hp
  have h0 := Pl.mulA (show -31 ≤ la by omega) (show la ≤ 31 by omega) (show -31 ≤ mb by omega) (show mb ≤ 31 by omega)
  obtain ⟨h0a, h0b⟩ := h0
  have h1 := Pl.mulA (show -31 ≤ lb by omega) (show lb ≤ 31 by omega) (show -31 ≤ ma by omega) (show ma ≤ 31 by omega)
  obtain ⟨h1a, h1b⟩ := h1
  have h2 := Pl.mulA (show -31 ≤ lb by omega) (show lb ≤ 31 by omega) (show -31 ≤ mc by omega) (show mc ≤ 31 by omega)
  obtain ⟨h2a, h2b⟩ := h2
  have h3 := Pl.mulA (show -31 ≤ lc by omega) (show lc ≤ 31 by omega) (show -31 ≤ mb by omega) (show mb ≤ 31 by omega)
  obtain ⟨h3a, h3b⟩ := h3
  have h4 := Pl.mulA (show -31 ≤ lc by omega) (show lc ≤ 31 by omega) (show -31 ≤ ma by omega) (show ma ≤ 31 by omega)
  obtain ⟨h4a, h4b⟩ := h4
  have h5 := Pl.mulA (show -31 ≤ la by omega) (show la ≤ 31 by omega) (show -31 ≤ mc by omega) (show mc ≤ 31 by omega)
  obtain ⟨h5a, h5b⟩ := h5
  have dn := Int.emod_nonneg (la * mb - lb * ma) (show p ≠ 0 by omega)
  have dl := Int.emod_lt_of_pos (la * mb - lb * ma) (show 0 < p by omega)
  have xn := Int.emod_nonneg (lb * mc - lc * mb) (show p ≠ 0 by omega)
  have xl := Int.emod_lt_of_pos (lb * mc - lc * mb) (show 0 < p by omega)
  have yn := Int.emod_nonneg (lc * ma - la * mc) (show p ≠ 0 by omega)
  have yl := Int.emod_lt_of_pos (lc * ma - la * mc) (show 0 < p by omega)
  have e0 : IntKind.i64.wrap (la * mb) = la * mb := IntWalk.i64_in _ (by omega)
  have e1 : IntKind.i64.wrap (lb * ma) = lb * ma := IntWalk.i64_in _ (by omega)
  have e2 : IntKind.i64.wrap (lb * mc) = lb * mc := IntWalk.i64_in _ (by omega)
  have e3 : IntKind.i64.wrap (lc * mb) = lc * mb := IntWalk.i64_in _ (by omega)
  have e4 : IntKind.i64.wrap (lc * ma) = lc * ma := IntWalk.i64_in _ (by omega)
  have e5 : IntKind.i64.wrap (la * mc) = la * mc := IntWalk.i64_in _ (by omega)
  have e6 : IntKind.i64.wrap (la * mb - lb * ma) = la * mb - lb * ma := IntWalk.i64_in _ (by omega)
  have e7 : IntKind.i64.wrap (lb * mc - lc * mb) = lb * mc - lc * mb := IntWalk.i64_in _ (by omega)
  have e8 : IntKind.i64.wrap (lc * ma - la * mc) = lc * ma - la * mc := IntWalk.i64_in _ (by omega)
  go_enter Tryz.func58, Tryz.ntmps58
  go_wp2_with (go_at_call 96; refine (rest_any _ _ _ (by omega) (by omega)).mono ?_; rintro e w' ⟨rfl, rfl⟩)
  go_region_held3 (fun w' => w'.cell? ⟨w.heap.size, 0, none⟩ = some (.int .i64 la) ∧ w'.cell? ⟨w.heap.size, 1, none⟩ = some (.int .i64 lb) ∧ w'.cell? ⟨w.heap.size, 2, none⟩ = some (.int .i64 lc) ∧ w'.cell? ⟨w.heap.size + 1, 0, none⟩ = some (.int .i64 ma) ∧ w'.cell? ⟨w.heap.size + 1, 1, none⟩ = some (.int .i64 mb) ∧ w'.cell? ⟨w.heap.size + 1, 2, none⟩ = some (.int .i64 mc)) (go_keep) (first | (go_at_call 96; refine (rest_any _ _ _ (by omega) (by omega)).mono ?_; rintro e w' ⟨rfl, rfl⟩) | (go_at_call 99; refine (divide_any _ _ _ _ hf (by omega) (by omega) (by omega) (by omega)).mono ?_; rintro e w' ⟨rfl, rfl⟩))
  go_wp2_with fail
  go_returns
  exact ⟨ret_p (Pl.meetX_i _ _ _ _ _ _ _) (Pl.meetY_i _ _ _ _ _ _ _), by go_grown⟩
theorem l01Meet_z (p la lb lc ma mb mc : Int) (w : World) (hf : Pl.fieldB p = true) (la1 : 0 ≤ la) (la2 : la ≤ 31) (lb1 : 0 ≤ lb) (lb2 : lb ≤ 31) (lc1 : 0 ≤ lc) (lc2 : lc ≤ 31) (ma1 : 0 ≤ ma) (ma2 : ma ≤ 31) (mb1 : 0 ≤ mb) (mb2 : mb ≤ 31) (mc1 : 0 ≤ mc) (mc2 : mc ≤ 31) (hpar : Pl.parB p la lb ma mb = true) :
    Calls Tryz.prog 60 #[.int .i64 p, .agg #[.int .i64 la, .int .i64 lb, .int .i64 lc], .agg #[.int .i64 ma, .int .i64 mb, .int .i64 mc]] w fun e w' => e = .returned (.tuple #[.agg #[.int .i64 0, .int .i64 0], .bool false]) ∧ Below w.heap.size w w' := by
  have hp := Pl.field_bd hf
  obtain ⟨hp1, hp2⟩ := hp
  have h0 := Pl.mulA (show -31 ≤ la by omega) (show la ≤ 31 by omega) (show -31 ≤ mb by omega) (show mb ≤ 31 by omega)
  obtain ⟨h0a, h0b⟩ := h0
  have h1 := Pl.mulA (show -31 ≤ lb by omega) (show lb ≤ 31 by omega) (show -31 ≤ ma by omega) (show ma ≤ 31 by omega)
  obtain ⟨h1a, h1b⟩ := h1
  have h2 := Pl.mulA (show -31 ≤ lb by omega) (show lb ≤ 31 by omega) (show -31 ≤ mc by omega) (show mc ≤ 31 by omega)
  obtain ⟨h2a, h2b⟩ := h2
  have h3 := Pl.mulA (show -31 ≤ mb by omega) (show mb ≤ 31 by omega) (show -31 ≤ lc by omega) (show lc ≤ 31 by omega)
  obtain ⟨h3a, h3b⟩ := h3
  have h4 := Pl.mulA (show -31 ≤ ma by omega) (show ma ≤ 31 by omega) (show -31 ≤ lc by omega) (show lc ≤ 31 by omega)
  obtain ⟨h4a, h4b⟩ := h4
  have h5 := Pl.mulA (show -31 ≤ la by omega) (show la ≤ 31 by omega) (show -31 ≤ mc by omega) (show mc ≤ 31 by omega)
  obtain ⟨h5a, h5b⟩ := h5
  have dn := Int.emod_nonneg (la * mb - lb * ma) (show p ≠ 0 by omega)
  have dl := Int.emod_lt_of_pos (la * mb - lb * ma) (show 0 < p by omega)
  have e0 : IntKind.i64.wrap (la * mb) = la * mb := IntWalk.i64_in _ (by omega)
  have e1 : IntKind.i64.wrap (lb * ma) = lb * ma := IntWalk.i64_in _ (by omega)
  have e2 : IntKind.i64.wrap (lb * mc) = lb * mc := IntWalk.i64_in _ (by omega)
  have e3 : IntKind.i64.wrap (mb * lc) = mb * lc := IntWalk.i64_in _ (by omega)
  have e4 : IntKind.i64.wrap (ma * lc) = ma * lc := IntWalk.i64_in _ (by omega)
  have e5 : IntKind.i64.wrap (la * mc) = la * mc := IntWalk.i64_in _ (by omega)
  have e6 : IntKind.i64.wrap (la * mb - lb * ma) = la * mb - lb * ma := IntWalk.i64_in _ (by omega)
  have hpar2 : ((la * mb - lb * ma) % p == 0) = true := hpar
  clear hpar
  go_enter Tryz.func60, Tryz.ntmps60
  go_wp2_with (go_at_call 101; refine (l01Mod_any _ _ _ (by omega) (by omega)).mono ?_; rintro e w' ⟨rfl, rfl⟩)
  go_returns
  exact ⟨rfl, by go_grown⟩
theorem l01Meet_n (p la lb lc ma mb mc : Int) (w : World) (hf : Pl.fieldB p = true) (la1 : 0 ≤ la) (la2 : la ≤ 31) (lb1 : 0 ≤ lb) (lb2 : lb ≤ 31) (lc1 : 0 ≤ lc) (lc2 : lc ≤ 31) (ma1 : 0 ≤ ma) (ma2 : ma ≤ 31) (mb1 : 0 ≤ mb) (mb2 : mb ≤ 31) (mc1 : 0 ≤ mc) (mc2 : mc ≤ 31) (hpar : Pl.parB p la lb ma mb = false) :
    Calls Tryz.prog 60 #[.int .i64 p, .agg #[.int .i64 la, .int .i64 lb, .int .i64 lc], .agg #[.int .i64 ma, .int .i64 mb, .int .i64 mc]] w fun e w' => e = .returned (.tuple #[.agg #[.int .i64 (Pl.meetX p la lb lc ma mb mc), .int .i64 (Pl.meetY p la lb lc ma mb mc)], .bool true]) ∧ Below w.heap.size w w' := by
  have hp := Pl.field_bd hf
  obtain ⟨hp1, hp2⟩ := hp
  have h0 := Pl.mulA (show -31 ≤ la by omega) (show la ≤ 31 by omega) (show -31 ≤ mb by omega) (show mb ≤ 31 by omega)
  obtain ⟨h0a, h0b⟩ := h0
  have h1 := Pl.mulA (show -31 ≤ lb by omega) (show lb ≤ 31 by omega) (show -31 ≤ ma by omega) (show ma ≤ 31 by omega)
  obtain ⟨h1a, h1b⟩ := h1
  have h2 := Pl.mulA (show -31 ≤ lb by omega) (show lb ≤ 31 by omega) (show -31 ≤ mc by omega) (show mc ≤ 31 by omega)
  obtain ⟨h2a, h2b⟩ := h2
  have h3 := Pl.mulA (show -31 ≤ mb by omega) (show mb ≤ 31 by omega) (show -31 ≤ lc by omega) (show lc ≤ 31 by omega)
  obtain ⟨h3a, h3b⟩ := h3
  have h4 := Pl.mulA (show -31 ≤ ma by omega) (show ma ≤ 31 by omega) (show -31 ≤ lc by omega) (show lc ≤ 31 by omega)
  obtain ⟨h4a, h4b⟩ := h4
  have h5 := Pl.mulA (show -31 ≤ la by omega) (show la ≤ 31 by omega) (show -31 ≤ mc by omega) (show mc ≤ 31 by omega)
  obtain ⟨h5a, h5b⟩ := h5
  have dn := Int.emod_nonneg (la * mb - lb * ma) (show p ≠ 0 by omega)
  have dl := Int.emod_lt_of_pos (la * mb - lb * ma) (show 0 < p by omega)
  have hi := Pl.inv_bd (a := la * mb - lb * ma) hf
  obtain ⟨hi1, hi2⟩ := hi
  generalize hI : Pl.inv p ((la * mb - lb * ma) % p) = iv at *
  have qx : -31 ≤ Int.tmod (lb * mc - mb * lc) p ∧ Int.tmod (lb * mc - mb * lc) p ≤ 31 := by have h1 := Int.tmod_lt_of_pos (lb * mc - mb * lc) (show 0 < p by omega); have h2 := Int.lt_tmod_of_pos (lb * mc - mb * lc) (show 0 < p by omega); omega
  obtain ⟨qx1, qx2⟩ := qx
  have mx := Pl.mulA (show -31 ≤ (Int.tmod (lb * mc - mb * lc) p) by omega) (show (Int.tmod (lb * mc - mb * lc) p) ≤ 31 by omega) (show -31 ≤ iv by omega) (show iv ≤ 31 by omega)
  obtain ⟨mxa, mxb⟩ := mx
  have emx : IntKind.i64.wrap (Int.tmod (lb * mc - mb * lc) p * iv) = Int.tmod (lb * mc - mb * lc) p * iv := IntWalk.i64_in _ (by omega)
  have qy : -31 ≤ Int.tmod (ma * lc - la * mc) p ∧ Int.tmod (ma * lc - la * mc) p ≤ 31 := by have h1 := Int.tmod_lt_of_pos (ma * lc - la * mc) (show 0 < p by omega); have h2 := Int.lt_tmod_of_pos (ma * lc - la * mc) (show 0 < p by omega); omega
  obtain ⟨qy1, qy2⟩ := qy
  have my := Pl.mulA (show -31 ≤ (Int.tmod (ma * lc - la * mc) p) by omega) (show (Int.tmod (ma * lc - la * mc) p) ≤ 31 by omega) (show -31 ≤ iv by omega) (show iv ≤ 31 by omega)
  obtain ⟨mya, myb⟩ := my
  have emy : IntKind.i64.wrap (Int.tmod (ma * lc - la * mc) p * iv) = Int.tmod (ma * lc - la * mc) p * iv := IntWalk.i64_in _ (by omega)
  have hp0 : ¬ p = 0 := by omega
  have e0 : IntKind.i64.wrap (la * mb) = la * mb := IntWalk.i64_in _ (by omega)
  have e1 : IntKind.i64.wrap (lb * ma) = lb * ma := IntWalk.i64_in _ (by omega)
  have e2 : IntKind.i64.wrap (lb * mc) = lb * mc := IntWalk.i64_in _ (by omega)
  have e3 : IntKind.i64.wrap (mb * lc) = mb * lc := IntWalk.i64_in _ (by omega)
  have e4 : IntKind.i64.wrap (ma * lc) = ma * lc := IntWalk.i64_in _ (by omega)
  have e5 : IntKind.i64.wrap (la * mc) = la * mc := IntWalk.i64_in _ (by omega)
  have e6 : IntKind.i64.wrap (la * mb - lb * ma) = la * mb - lb * ma := IntWalk.i64_in _ (by omega)
  have e7 : IntKind.i64.wrap (lb * mc - mb * lc) = lb * mc - mb * lc := IntWalk.i64_in _ (by omega)
  have e8 : IntKind.i64.wrap (ma * lc - la * mc) = ma * lc - la * mc := IntWalk.i64_in _ (by omega)
  have hpar2 : ((la * mb - lb * ma) % p == 0) = false := hpar
  clear hpar
  go_enter Tryz.func60, Tryz.ntmps60
  go_wp2_with (first | (go_at_call 101; refine (l01Mod_any _ _ _ (by omega) (by omega)).mono ?_; rintro e w' ⟨rfl, rfl⟩) | (go_at_call 102; refine (l01Inverse_any _ _ _ hf).mono ?_; rintro e w' ⟨rfl, rfl⟩; try simp only [Int.emod_emod, hI]))
  go_region_held3 (fun w' => w'.cell? ⟨w.heap.size, 0, none⟩ = some (.int .i64 la) ∧ w'.cell? ⟨w.heap.size, 1, none⟩ = some (.int .i64 lb) ∧ w'.cell? ⟨w.heap.size, 2, none⟩ = some (.int .i64 lc) ∧ w'.cell? ⟨w.heap.size + 1, 0, none⟩ = some (.int .i64 ma) ∧ w'.cell? ⟨w.heap.size + 1, 1, none⟩ = some (.int .i64 mb) ∧ w'.cell? ⟨w.heap.size + 1, 2, none⟩ = some (.int .i64 mc)) (go_keep) (first | (go_at_call 101; refine (l01Mod_any _ _ _ (by omega) (by omega)).mono ?_; rintro e w' ⟨rfl, rfl⟩))
  go_wp2_with fail
  go_returns
  subst hI
  exact ⟨ret_pb (Pl.meetX_s _ _ _ _ _ _ _ (by omega)) (Pl.meetY_s _ _ _ _ _ _ _ (by omega)), by go_grown⟩
theorem MeetOf1_any (p la lb lc ma mb mc : Int) (b0 b1 b2 : Nat) (w : World) (c00 : w.cell? ⟨b0, 0, none⟩ = some (.int .i64 p)) (c10 : w.cell? ⟨b1, 0, none⟩ = some (.int .i64 la)) (c11 : w.cell? ⟨b1, 1, none⟩ = some (.int .i64 lb)) (c12 : w.cell? ⟨b1, 2, none⟩ = some (.int .i64 lc)) (c20 : w.cell? ⟨b2, 0, none⟩ = some (.int .i64 ma)) (c21 : w.cell? ⟨b2, 1, none⟩ = some (.int .i64 mb)) (c22 : w.cell? ⟨b2, 2, none⟩ = some (.int .i64 mc)) :
    Calls Tryz.prog 55 #[.pointer (some ⟨b0, 0, none⟩), .pointer (some ⟨b1, 0, none⟩), .pointer (some ⟨b2, 0, none⟩)] w fun e w' => e = .returned (.bool (Pl.linesB p [(la, lb, lc), (ma, mb, mc)])) ∧ Below w.heap.size w w' := by
  go_enter Tryz.func55, Tryz.ntmps55
  go_wp2_with fail
  refine (areLines_any p _ 0 2 2 [(la, lb, lc), (ma, mb, mc)] rfl (by omega) _ (by simp) ?_).mono ?_
  · intro j hj
    match j, hj with
    | 0, _ => exact ⟨by go_simp, by go_simp, by go_simp⟩
    | 1, _ => exact ⟨by go_simp, by go_simp, by go_simp⟩
  · rintro e w' ⟨rfl, hb⟩
    go_wp2_with fail
    go_ret
    exact ⟨rfl, below_of (by go_grown) hb (by simp <;> omega)⟩
theorem MeetOf_any (p la lb lc ma mb mc : Int) (w : World) :
    Calls Tryz.prog 12 #[.int .i64 p, .agg #[.int .i64 la, .int .i64 lb, .int .i64 lc], .agg #[.int .i64 ma, .int .i64 mb, .int .i64 mc]] w fun e w' => e = .returned (.tuple #[.agg #[.int .i64 ((Pl.meetOf p la lb lc ma mb mc).1.1), .int .i64 ((Pl.meetOf p la lb lc ma mb mc).1.2)], .int .i64 ((Pl.meetOf p la lb lc ma mb mc).2)]) ∧ Below w.heap.size w w' := by
  by_cases h0 : Pl.ask p (Pl.linesB p [(la, lb, lc), (ma, mb, mc)]) = 0
  · have hfin : Hid (Pl.meetOf p la lb lc ma mb mc = (if Pl.parB p la lb ma mb = true then ((0, 0), 5) else ((Pl.meetX p la lb lc ma mb mc, Pl.meetY p la lb lc ma mb mc), 0))) := by unfold Hid Pl.meetOf; rw [if_pos h0]
    have hv : Hid (Pl.fieldB p = true ∧ (Pl.linesB p [(la, lb, lc), (ma, mb, mc)]) = true) := Pl.ask_ok h0
    have hp := Pl.field_bd hv.out.1
    obtain ⟨hp1, hp2⟩ := hp
    obtain ⟨⟨la1, la2, lb1, lb2, lc1, lc2, hl⟩, ma1, ma2, mb1, mb2, mc1, mc2, hm⟩ := Pl.lines2_bd hv.out.2
    have hf := hv.out.1
    clear hl hm
    go_enter Tryz.func12, Tryz.ntmps12
    go_wp2_with fail
    refine (asked_any p _ _ (Pl.linesB p [(la, lb, lc), (ma, mb, mc)]) _ (by kernel_rfl) ?_).mono ?_
    · intro _
      exact MeetOf1_any p la lb lc ma mb mc _ _ _ _ (by go_simp) (by go_simp) (by go_simp) (by go_simp) (by go_simp) (by go_simp) (by go_simp)
    · rintro e w1 ⟨rfl, hb⟩
      have c00 : w1.cell? ⟨w.heap.size, 0, none⟩ = some (.int .i64 p) := cellOf hb (by go_simp) (by simp <;> omega)
      have c10 : w1.cell? ⟨w.heap.size + 1, 0, none⟩ = some (.int .i64 la) := cellOf hb (by go_simp) (by simp <;> omega)
      have c11 : w1.cell? ⟨w.heap.size + 1, 1, none⟩ = some (.int .i64 lb) := cellOf hb (by go_simp) (by simp <;> omega)
      have c12 : w1.cell? ⟨w.heap.size + 1, 2, none⟩ = some (.int .i64 lc) := cellOf hb (by go_simp) (by simp <;> omega)
      have c20 : w1.cell? ⟨w.heap.size + 2, 0, none⟩ = some (.int .i64 ma) := cellOf hb (by go_simp) (by simp <;> omega)
      have c21 : w1.cell? ⟨w.heap.size + 2, 1, none⟩ = some (.int .i64 mb) := cellOf hb (by go_simp) (by simp <;> omega)
      have c22 : w1.cell? ⟨w.heap.size + 2, 2, none⟩ = some (.int .i64 mc) := cellOf hb (by go_simp) (by simp <;> omega)
      have z0 : w1.cell? ⟨w.heap.size + 1 + 1 + 1, 0, none⟩ = some (.int .i64 0) := cellOf hb (by go_simp) (by simp <;> omega)
      have y0 : w1.frozen? ⟨w.heap.size + 1 + 1 + 1, 0, none⟩ = false := frozenOf hb (by go_simp) (by simp <;> omega)
      have z1 : w1.cell? ⟨w.heap.size + 1 + 1 + 1, 1, none⟩ = some (.int .i64 0) := cellOf hb (by go_simp) (by simp <;> omega)
      have y1 : w1.frozen? ⟨w.heap.size + 1 + 1 + 1, 1, none⟩ = false := frozenOf hb (by go_simp) (by simp <;> omega)
      have hz : w.heap.size + 3 ≤ w1.heap.size := by have := hb.size; simp at this; omega
      have hB : Below w.heap.size w w1 := below_of (by go_grown) hb (by simp <;> omega)
      clear hb
      cases hpar : Pl.parB p la lb ma mb with
      | true =>
        have HP := hid hpar
        go_wp2_with (go_at_call 57; refine (areParallel_any _ _ _ _ _ _ _ _ (by omega) (by omega) (by omega) (by omega) (by omega) (by omega) (by omega) (by omega) (by omega) (by omega) (by omega) (by omega) (by omega) (by omega)).mono ?_; rintro e w' ⟨rfl, hbn⟩; replace c00 := keepC hbn (by first | exact c00 | exact keepA _ c00 | exact keepA _ (keepA _ c00)); replace c10 := keepC hbn (by first | exact c10 | exact keepA _ c10 | exact keepA _ (keepA _ c10)); replace c11 := keepC hbn (by first | exact c11 | exact keepA _ c11 | exact keepA _ (keepA _ c11)); replace c12 := keepC hbn (by first | exact c12 | exact keepA _ c12 | exact keepA _ (keepA _ c12)); replace c20 := keepC hbn (by first | exact c20 | exact keepA _ c20 | exact keepA _ (keepA _ c20)); replace c21 := keepC hbn (by first | exact c21 | exact keepA _ c21 | exact keepA _ (keepA _ c21)); replace c22 := keepC hbn (by first | exact c22 | exact keepA _ c22 | exact keepA _ (keepA _ c22)); replace y0 := keepF hbn z0 y0; replace y1 := keepF hbn z1 y1; replace z0 := keepC hbn z0; replace z1 := keepC hbn z1; replace hB := below_of (B := w.heap.size) (a := w) (by first | exact hB | (have := hB.size; go_grown)) hbn (by first | exact hB.size | (have := hB.size; simp <;> omega)); clear hbn)
        try simp only [Exit.inBlock, Exit.then]
        refine bodyPost_ret (by simp [results, Tryz.results12, go_sem, y0, y1, z0, z1]; try rfl) rfl ?_
        exact ⟨ret_pi (by rw [hfin.out, if_pos HP.out]) (by rw [hfin.out, if_pos HP.out]) (by rw [hfin.out, if_pos HP.out]), by first | exact hB | go_grown⟩
      | false =>
        have HP := hid hpar
        go_wp2_with (first | (go_at_call 57; refine (areParallel_any _ _ _ _ _ _ _ _ (by omega) (by omega) (by omega) (by omega) (by omega) (by omega) (by omega) (by omega) (by omega) (by omega) (by omega) (by omega) (by omega) (by omega)).mono ?_; rintro e w' ⟨rfl, hbn⟩; replace c00 := keepC hbn (by first | exact c00 | exact keepA _ c00 | exact keepA _ (keepA _ c00)); replace c10 := keepC hbn (by first | exact c10 | exact keepA _ c10 | exact keepA _ (keepA _ c10)); replace c11 := keepC hbn (by first | exact c11 | exact keepA _ c11 | exact keepA _ (keepA _ c11)); replace c12 := keepC hbn (by first | exact c12 | exact keepA _ c12 | exact keepA _ (keepA _ c12)); replace c20 := keepC hbn (by first | exact c20 | exact keepA _ c20 | exact keepA _ (keepA _ c20)); replace c21 := keepC hbn (by first | exact c21 | exact keepA _ c21 | exact keepA _ (keepA _ c21)); replace c22 := keepC hbn (by first | exact c22 | exact keepA _ c22 | exact keepA _ (keepA _ c22)); replace y0 := keepF hbn z0 y0; replace y1 := keepF hbn z1 y1; replace z0 := keepC hbn z0; replace z1 := keepC hbn z1; replace hB := below_of (B := w.heap.size) (a := w) (by first | exact hB | (have := hB.size; go_grown)) hbn (by first | exact hB.size | (have := hB.size; simp <;> omega)); clear hbn) | (go_at_call 58; refine (meet_any _ _ _ _ _ _ _ _ hf (by omega) (by omega) (by omega) (by omega) (by omega) (by omega) (by omega) (by omega) (by omega) (by omega) (by omega) (by omega)).mono ?_; rintro e w' ⟨rfl, hbn⟩; replace c00 := keepC hbn (by first | exact c00 | exact keepA _ c00 | exact keepA _ (keepA _ c00)); replace c10 := keepC hbn (by first | exact c10 | exact keepA _ c10 | exact keepA _ (keepA _ c10)); replace c11 := keepC hbn (by first | exact c11 | exact keepA _ c11 | exact keepA _ (keepA _ c11)); replace c12 := keepC hbn (by first | exact c12 | exact keepA _ c12 | exact keepA _ (keepA _ c12)); replace c20 := keepC hbn (by first | exact c20 | exact keepA _ c20 | exact keepA _ (keepA _ c20)); replace c21 := keepC hbn (by first | exact c21 | exact keepA _ c21 | exact keepA _ (keepA _ c21)); replace c22 := keepC hbn (by first | exact c22 | exact keepA _ c22 | exact keepA _ (keepA _ c22)); replace y0 := keepF hbn z0 y0; replace y1 := keepF hbn z1 y1; replace z0 := keepC hbn z0; replace z1 := keepC hbn z1; replace hB := below_of (B := w.heap.size) (a := w) (by first | exact hB | (have := hB.size; go_grown)) hbn (by first | exact hB.size | (have := hB.size; simp <;> omega)); clear hbn))
        try simp only [Exit.inBlock, Exit.then]
        refine bodyPost_ret (by simp [results, Tryz.results12, go_sem, y0, y1, z0, z1]; try rfl) rfl ?_
        exact ⟨ret_pi (by rw [hfin.out, if_neg (by rw [HP.out]; decide)]) (by rw [hfin.out, if_neg (by rw [HP.out]; decide)]) (by rw [hfin.out, if_neg (by rw [HP.out]; decide)]), by first | exact hB | go_grown⟩
  · have hne : (Pl.ask p (Pl.linesB p [(la, lb, lc), (ma, mb, mc)]) != 0) = true := by simpa using h0
    have hfin : Hid (Pl.meetOf p la lb lc ma mb mc = ((0, 0), Pl.ask p (Pl.linesB p [(la, lb, lc), (ma, mb, mc)]))) := by unfold Hid Pl.meetOf; rw [if_neg h0]
    clear h0
    go_enter Tryz.func12, Tryz.ntmps12
    go_wp2_with fail
    refine (asked_any p _ _ (Pl.linesB p [(la, lb, lc), (ma, mb, mc)]) _ (by kernel_rfl) ?_).mono ?_
    · intro _
      exact MeetOf1_any p la lb lc ma mb mc _ _ _ _ (by go_simp) (by go_simp) (by go_simp) (by go_simp) (by go_simp) (by go_simp) (by go_simp)
    · rintro e w1 ⟨rfl, hb⟩
      have z0 : w1.cell? ⟨w.heap.size + 1 + 1 + 1, 0, none⟩ = some (.int .i64 0) := cellOf hb (by go_simp) (by simp <;> omega)
      have y0 : w1.frozen? ⟨w.heap.size + 1 + 1 + 1, 0, none⟩ = false := frozenOf hb (by go_simp) (by simp <;> omega)
      have z1 : w1.cell? ⟨w.heap.size + 1 + 1 + 1, 1, none⟩ = some (.int .i64 0) := cellOf hb (by go_simp) (by simp <;> omega)
      have y1 : w1.frozen? ⟨w.heap.size + 1 + 1 + 1, 1, none⟩ = false := frozenOf hb (by go_simp) (by simp <;> omega)
      have hB : Below w.heap.size w w1 := below_of (by go_grown) hb (by simp <;> omega)
      clear hb
      go_wp2_with fail
      try simp only [Exit.inBlock, Exit.then]
      refine bodyPost_ret (by simp [results, Tryz.results12, go_sem, y0, y1, z0, z1]; try rfl) rfl ?_
      exact ⟨ret_pi (by rw [hfin.out]) (by rw [hfin.out]) (by rw [hfin.out]), by go_grown⟩
theorem sMeetOf_any (p la lb lc ma mb mc : Int) (w : World) :
    Calls Tryz.prog 13 #[.int .i64 p, .agg #[.int .i64 la, .int .i64 lb, .int .i64 lc], .agg #[.int .i64 ma, .int .i64 mb, .int .i64 mc]] w fun e w' => e = .returned (.tuple #[.agg #[.int .i64 ((Pl.meetOf p la lb lc ma mb mc).1.1), .int .i64 ((Pl.meetOf p la lb lc ma mb mc).1.2)], .int .i64 ((Pl.meetOf p la lb lc ma mb mc).2)]) ∧ Below w.heap.size w w' := by
  by_cases h0 : Pl.ask p (Pl.linesB p [(la, lb, lc), (ma, mb, mc)]) = 0
  · have hfin : Hid (Pl.meetOf p la lb lc ma mb mc = (if Pl.parB p la lb ma mb = true then ((0, 0), 5) else ((Pl.meetX p la lb lc ma mb mc, Pl.meetY p la lb lc ma mb mc), 0))) := by unfold Hid Pl.meetOf; rw [if_pos h0]
    have hv : Hid (Pl.fieldB p = true ∧ (Pl.linesB p [(la, lb, lc), (ma, mb, mc)]) = true) := Pl.ask_ok h0
    have hp := Pl.field_bd hv.out.1
    obtain ⟨hp1, hp2⟩ := hp
    obtain ⟨⟨la1, la2, lb1, lb2, lc1, lc2, hl⟩, ma1, ma2, mb1, mb2, mc1, mc2, hm⟩ := Pl.lines2_bd hv.out.2
    have hf := hv.out.1
    clear hl hm
    go_enter Tryz.func13, Tryz.ntmps13
    go_wp2_with fail
    refine (l01Lines_any p _ 0 2 2 [(la, lb, lc), (ma, mb, mc)] rfl (by omega) _ (by simp) ?_).mono ?_
    · intro j hj
      match j, hj with
      | 0, _ => exact ⟨by go_simp, by go_simp, by go_simp⟩
      | 1, _ => exact ⟨by go_simp, by go_simp, by go_simp⟩
    · rintro e w1 ⟨rfl, hb⟩
      have c00 : w1.cell? ⟨w.heap.size, 0, none⟩ = some (.int .i64 la) := keepC hb (by go_simp)
      have c01 : w1.cell? ⟨w.heap.size, 1, none⟩ = some (.int .i64 lb) := keepC hb (by go_simp)
      have c02 : w1.cell? ⟨w.heap.size, 2, none⟩ = some (.int .i64 lc) := keepC hb (by go_simp)
      have c10 : w1.cell? ⟨w.heap.size + 1, 0, none⟩ = some (.int .i64 ma) := keepC hb (by go_simp)
      have c11 : w1.cell? ⟨w.heap.size + 1, 1, none⟩ = some (.int .i64 mb) := keepC hb (by go_simp)
      have c12 : w1.cell? ⟨w.heap.size + 1, 2, none⟩ = some (.int .i64 mc) := keepC hb (by go_simp)
      have z0 : w1.cell? ⟨w.heap.size + 1 + 1, 0, none⟩ = some (.int .i64 0) := cellOf hb (by go_simp) (by simp <;> omega)
      have y0 : w1.frozen? ⟨w.heap.size + 1 + 1, 0, none⟩ = false := frozenOf hb (by go_simp) (by simp <;> omega)
      have z1 : w1.cell? ⟨w.heap.size + 1 + 1, 1, none⟩ = some (.int .i64 0) := cellOf hb (by go_simp) (by simp <;> omega)
      have y1 : w1.frozen? ⟨w.heap.size + 1 + 1, 1, none⟩ = false := frozenOf hb (by go_simp) (by simp <;> omega)
      have hB : Below w.heap.size w w1 := below_of (by go_grown) hb (by simp <;> omega)
      clear hb
      cases hpar : Pl.parB p la lb ma mb with
      | true =>
        have HP := hid hpar
        go_wp2_with (go_at_call 60; refine (l01Meet_z _ _ _ _ _ _ _ _ hf (by omega) (by omega) (by omega) (by omega) (by omega) (by omega) (by omega) (by omega) (by omega) (by omega) (by omega) (by omega) hpar).mono ?_; rintro e w' ⟨rfl, hbn⟩; replace c00 := keepC hbn (by first | exact c00 | exact keepA _ c00 | exact keepA _ (keepA _ c00)); replace c01 := keepC hbn (by first | exact c01 | exact keepA _ c01 | exact keepA _ (keepA _ c01)); replace c02 := keepC hbn (by first | exact c02 | exact keepA _ c02 | exact keepA _ (keepA _ c02)); replace c10 := keepC hbn (by first | exact c10 | exact keepA _ c10 | exact keepA _ (keepA _ c10)); replace c11 := keepC hbn (by first | exact c11 | exact keepA _ c11 | exact keepA _ (keepA _ c11)); replace c12 := keepC hbn (by first | exact c12 | exact keepA _ c12 | exact keepA _ (keepA _ c12)); replace y0 := keepF hbn z0 y0; replace y1 := keepF hbn z1 y1; replace z0 := keepC hbn z0; replace z1 := keepC hbn z1; replace hB := below_of (B := w.heap.size) (a := w) (by first | exact hB | (have := hB.size; go_grown)) hbn (by first | exact hB.size | (have := hB.size; simp <;> omega)); clear hbn; have hub : w.heap.size + 1 + 1 < w'.heap.size := World.block_lt_of_cell? w' _ z0)
        try simp only [Exit.inBlock, Exit.then]
        refine bodyPost_ret (by simp [results, Tryz.results13, go_sem, y0, y1, z0, z1, World.cell?_alloc_lt, hub]; try rfl) rfl ?_
        exact ⟨ret_pi (by rw [hfin.out, if_pos HP.out]) (by rw [hfin.out, if_pos HP.out]) (by rw [hfin.out, if_pos HP.out]), by first | exact hB | go_grown⟩
      | false =>
        have HP := hid hpar
        go_wp2_with (go_at_call 60; refine (l01Meet_n _ _ _ _ _ _ _ _ hf (by omega) (by omega) (by omega) (by omega) (by omega) (by omega) (by omega) (by omega) (by omega) (by omega) (by omega) (by omega) hpar).mono ?_; rintro e w' ⟨rfl, hbn⟩; replace c00 := keepC hbn (by first | exact c00 | exact keepA _ c00 | exact keepA _ (keepA _ c00)); replace c01 := keepC hbn (by first | exact c01 | exact keepA _ c01 | exact keepA _ (keepA _ c01)); replace c02 := keepC hbn (by first | exact c02 | exact keepA _ c02 | exact keepA _ (keepA _ c02)); replace c10 := keepC hbn (by first | exact c10 | exact keepA _ c10 | exact keepA _ (keepA _ c10)); replace c11 := keepC hbn (by first | exact c11 | exact keepA _ c11 | exact keepA _ (keepA _ c11)); replace c12 := keepC hbn (by first | exact c12 | exact keepA _ c12 | exact keepA _ (keepA _ c12)); replace y0 := keepF hbn z0 y0; replace y1 := keepF hbn z1 y1; replace z0 := keepC hbn z0; replace z1 := keepC hbn z1; replace hB := below_of (B := w.heap.size) (a := w) (by first | exact hB | (have := hB.size; go_grown)) hbn (by first | exact hB.size | (have := hB.size; simp <;> omega)); clear hbn; have hub : w.heap.size + 1 + 1 < w'.heap.size := World.block_lt_of_cell? w' _ z0)
        try simp only [Exit.inBlock, Exit.then]
        refine bodyPost_ret (by simp [results, Tryz.results13, go_sem, y0, y1, z0, z1, World.cell?_alloc_lt, hub]; try rfl) rfl ?_
        exact ⟨ret_pi (by rw [hfin.out, if_neg (by rw [HP.out]; decide)]) (by rw [hfin.out, if_neg (by rw [HP.out]; decide)]) (by rw [hfin.out, if_neg (by rw [HP.out]; decide)]), by first | exact hB | go_grown⟩
  · have hne : (Pl.ask p (Pl.linesB p [(la, lb, lc), (ma, mb, mc)]) != 0) = true := by simpa using h0
    have hfin : Hid (Pl.meetOf p la lb lc ma mb mc = ((0, 0), Pl.ask p (Pl.linesB p [(la, lb, lc), (ma, mb, mc)]))) := by unfold Hid Pl.meetOf; rw [if_neg h0]
    clear h0
    go_enter Tryz.func13, Tryz.ntmps13
    go_wp2_with fail
    refine (l01Lines_any p _ 0 2 2 [(la, lb, lc), (ma, mb, mc)] rfl (by omega) _ (by simp) ?_).mono ?_
    · intro j hj
      match j, hj with
      | 0, _ => exact ⟨by go_simp, by go_simp, by go_simp⟩
      | 1, _ => exact ⟨by go_simp, by go_simp, by go_simp⟩
    · rintro e w1 ⟨rfl, hb⟩
      have z0 : w1.cell? ⟨w.heap.size + 1 + 1, 0, none⟩ = some (.int .i64 0) := cellOf hb (by go_simp) (by simp <;> omega)
      have y0 : w1.frozen? ⟨w.heap.size + 1 + 1, 0, none⟩ = false := frozenOf hb (by go_simp) (by simp <;> omega)
      have z1 : w1.cell? ⟨w.heap.size + 1 + 1, 1, none⟩ = some (.int .i64 0) := cellOf hb (by go_simp) (by simp <;> omega)
      have y1 : w1.frozen? ⟨w.heap.size + 1 + 1, 1, none⟩ = false := frozenOf hb (by go_simp) (by simp <;> omega)
      have hB : Below w.heap.size w w1 := below_of (by go_grown) hb (by simp <;> omega)
      clear hb
      go_wp2_with fail
      try simp only [Exit.inBlock, Exit.then]
      refine bodyPost_ret (by simp [results, Tryz.results13, go_sem, y0, y1, z0, z1]; try rfl) rfl ?_
      exact ⟨ret_pi (by rw [hfin.out]) (by rw [hfin.out]) (by rw [hfin.out]), by go_grown⟩
end Go.Proofs.YtbjcbbnfgfmllaaGreat
