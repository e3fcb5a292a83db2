/- Contracts: lines that numbers make, perpendicular and null lines, quadrances, right angles. -/
import Derived.Test.YtbjcbbnfgfmllaaH
set_option linter.unusedVariables false
set_option linter.unusedSimpArgs false
set_option maxRecDepth 100000
set_option maxHeartbeats 1000000
namespace Go.Proofs.Ytbjcbbnfgfmllaa
open Go.RowKit
theorem makeLine_any (p a b c : Int) (w : World) (hf : Pl.fieldB p = true) (a1 : -4000 ≤ a) (a2 : a ≤ 4000) (b1 : -4000 ≤ b) (b2 : b ≤ 4000) (c1 : -4000 ≤ c) (c2 : c ≤ 4000) :
    Calls Try.prog 172 #[.int .i64 p, .int .i64 a, .int .i64 b, .int .i64 c] w fun e w' => e = .returned (.agg #[.int .i64 (Pl.nrm p a b a), .int .i64 (Pl.nrm p a b b), .int .i64 (Pl.nrm p a b c)]) ∧ Below w.heap.size w w' := by
  have hp := Pl.field_bd hf
  obtain ⟨hp1, hp2⟩ := hp
  have ran := Int.emod_nonneg (a) (show p ≠ 0 by omega)
  have ral := Int.emod_lt_of_pos (a) (show 0 < p by omega)
  have rbn := Int.emod_nonneg (b) (show p ≠ 0 by omega)
  have rbl := Int.emod_lt_of_pos (b) (show 0 < p by omega)
  have rcn := Int.emod_nonneg (c) (show p ≠ 0 by omega)
  have rcl := Int.emod_lt_of_pos (c) (show 0 < p by omega)
  by_cases h0 : a % p = 0
  · have f0 : (a % p == 0) = true := by simpa using h0
    have H0 := hid h0
    clear h0
    go_enter Try.func172, Try.ntmps172
    go_wp2_with (first | (go_at_call 70; refine (rest_any _ _ _ (by omega) (by omega)).mono ?_; rintro e w' ⟨rfl, rfl⟩) | (go_at_call 69; refine (divide_any _ _ _ _ hf (by omega) (by omega) (by omega) (by omega)).mono ?_; rintro e w' ⟨rfl, rfl⟩))
    go_returns
    exact ⟨ret_l (Pl.nrm_z H0.out) (Pl.nrm_z H0.out) (Pl.nrm_z H0.out), by go_grown⟩
  · have f0 : (a % p == 0) = false := by simpa using h0
    have H0 := hid h0
    clear h0
    go_enter Try.func172, Try.ntmps172
    go_wp2_with (first | (go_at_call 70; refine (rest_any _ _ _ (by omega) (by omega)).mono ?_; rintro e w' ⟨rfl, rfl⟩) | (go_at_call 69; refine (divide_any _ _ _ _ hf (by omega) (by omega) (by omega) (by omega)).mono ?_; rintro e w' ⟨rfl, rfl⟩))
    go_returns
    exact ⟨ret_l (Pl.nrm_n H0.out) (Pl.nrm_n H0.out) (Pl.nrm_n H0.out), by go_grown⟩
theorem l01Normal_any (p a b c : Int) (w : World) (hf : Pl.fieldB p = true) (a1 : -4000 ≤ a) (a2 : a ≤ 4000) (b1 : -4000 ≤ b) (b2 : b ≤ 4000) (c1 : -4000 ≤ c) (c2 : c ≤ 4000) :
    Calls Try.prog 136 #[.int .i64 p, .int .i64 a, .int .i64 b, .int .i64 c] w fun e w' => e = .returned (.agg #[.int .i64 (Pl.nrm p a b a), .int .i64 (Pl.nrm p a b b), .int .i64 (Pl.nrm p a b c)]) ∧ Below w.heap.size w w' := by
  have hp := Pl.field_bd hf
  obtain ⟨hp1, hp2⟩ := hp
  have ran := Int.emod_nonneg (a) (show p ≠ 0 by omega)
  have ral := Int.emod_lt_of_pos (a) (show 0 < p by omega)
  have rbn := Int.emod_nonneg (b) (show p ≠ 0 by omega)
  have rbl := Int.emod_lt_of_pos (b) (show 0 < p by omega)
  by_cases h0 : a % p = 0
  · have f0 : (a % p == 0) = true := by simpa using h0
    have hi := Pl.inv_bd (a := b) hf
    have m0 := Pl.mulA (show -4000 ≤ a by omega) (show a ≤ 4000 by omega) (show -31 ≤ Pl.inv p (b % p) by omega) (show Pl.inv p (b % p) ≤ 31 by omega)
    obtain ⟨m0a, m0b⟩ := m0
    have e0 : IntKind.i64.wrap (a * Pl.inv p (b % p)) = a * Pl.inv p (b % p) := IntWalk.i64_in _ (by omega)
    have m1 := Pl.mulA (show -4000 ≤ b by omega) (show b ≤ 4000 by omega) (show -31 ≤ Pl.inv p (b % p) by omega) (show Pl.inv p (b % p) ≤ 31 by omega)
    obtain ⟨m1a, m1b⟩ := m1
    have e1 : IntKind.i64.wrap (b * Pl.inv p (b % p)) = b * Pl.inv p (b % p) := IntWalk.i64_in _ (by omega)
    have m2 := Pl.mulA (show -4000 ≤ c by omega) (show c ≤ 4000 by omega) (show -31 ≤ Pl.inv p (b % p) by omega) (show Pl.inv p (b % p) ≤ 31 by omega)
    obtain ⟨m2a, m2b⟩ := m2
    have e2 : IntKind.i64.wrap (c * Pl.inv p (b % p)) = c * Pl.inv p (b % p) := IntWalk.i64_in _ (by omega)
    have H0 := hid h0
    clear h0 hi
    go_enter Try.func136, Try.ntmps136
    go_wp2_with (first | (go_at_call 71; refine (l01Mod_any _ _ _ (by omega) (by omega)).mono ?_; rintro e w' ⟨rfl, rfl⟩) | (go_at_call 72; refine (l01Inverse_any _ _ _ hf).mono ?_; rintro e w' ⟨rfl, rfl⟩))
    go_returns
    exact ⟨ret_l (Pl.nrm_zs H0.out) (Pl.nrm_zs H0.out) (Pl.nrm_zs H0.out), by go_grown⟩
  · have f0 : (a % p == 0) = false := by simpa using h0
    have hi := Pl.inv_bd (a := a) hf
    have m0 := Pl.mulA (show -4000 ≤ a by omega) (show a ≤ 4000 by omega) (show -31 ≤ Pl.inv p (a % p) by omega) (show Pl.inv p (a % p) ≤ 31 by omega)
    obtain ⟨m0a, m0b⟩ := m0
    have e0 : IntKind.i64.wrap (a * Pl.inv p (a % p)) = a * Pl.inv p (a % p) := IntWalk.i64_in _ (by omega)
    have m1 := Pl.mulA (show -4000 ≤ b by omega) (show b ≤ 4000 by omega) (show -31 ≤ Pl.inv p (a % p) by omega) (show Pl.inv p (a % p) ≤ 31 by omega)
    obtain ⟨m1a, m1b⟩ := m1
    have e1 : IntKind.i64.wrap (b * Pl.inv p (a % p)) = b * Pl.inv p (a % p) := IntWalk.i64_in _ (by omega)
    have m2 := Pl.mulA (show -4000 ≤ c by omega) (show c ≤ 4000 by omega) (show -31 ≤ Pl.inv p (a % p) by omega) (show Pl.inv p (a % p) ≤ 31 by omega)
    obtain ⟨m2a, m2b⟩ := m2
    have e2 : IntKind.i64.wrap (c * Pl.inv p (a % p)) = c * Pl.inv p (a % p) := IntWalk.i64_in _ (by omega)
    have H0 := hid h0
    clear h0 hi
    go_enter Try.func136, Try.ntmps136
    go_wp2_with (first | (go_at_call 71; refine (l01Mod_any _ _ _ (by omega) (by omega)).mono ?_; rintro e w' ⟨rfl, rfl⟩) | (go_at_call 72; refine (l01Inverse_any _ _ _ hf).mono ?_; rintro e w' ⟨rfl, rfl⟩))
    go_returns
    exact ⟨ret_l (Pl.nrm_ns H0.out) (Pl.nrm_ns H0.out) (Pl.nrm_ns H0.out), by go_grown⟩
theorem quadrance_any (p k ax ay bx by_ : Int) (w : World) (hp1 : 1 ≤ p) (hp2 : p ≤ 31) (ax1 : 0 ≤ ax) (ax2 : ax ≤ 31) (ay1 : 0 ≤ ay) (ay2 : ay ≤ 31) (bx1 : 0 ≤ bx) (bx2 : bx ≤ 31) (by_1 : 0 ≤ by_) (by_2 : by_ ≤ 31) :
    Calls Try.prog 83 #[.int .i64 p, .int .i64 k, .agg #[.int .i64 ax, .int .i64 ay], .agg #[.int .i64 bx, .int .i64 by_]] w fun e w' => e = .returned (.int .i64 (Pl.quad p k ax ay bx by_)) ∧ Below w.heap.size w w' := by
  have r1n := Int.emod_nonneg (ax - bx) (show p ≠ 0 by omega)
  have r1l := Int.emod_lt_of_pos (ax - bx) (show 0 < p by omega)
  have r2n := Int.emod_nonneg (ay - by_) (show p ≠ 0 by omega)
  have r2l := Int.emod_lt_of_pos (ay - by_) (show 0 < p by omega)
  go_enter Try.func83, Try.ntmps83
  go_wp2_with fail
  generalize hW : (World.alloc (World.alloc w (.cells #[.int .i64 ax, .int .i64 ay] 33)) (.cells #[.int .i64 bx, .int .i64 by_] 33)) = W
  have d00 : W.cell? ⟨w.heap.size, 0, none⟩ = some (.int .i64 ax) := by subst hW; go_simp
  have d01 : W.cell? ⟨w.heap.size, 1, none⟩ = some (.int .i64 ay) := by subst hW; go_simp
  have d10 : W.cell? ⟨w.heap.size + 1, 0, none⟩ = some (.int .i64 bx) := by subst hW; go_simp
  have d11 : W.cell? ⟨w.heap.size + 1, 1, none⟩ = some (.int .i64 by_) := by subst hW; go_simp
  have hB : Below w.heap.size w W := by subst hW; go_grown
  clear hW
  clear d00 d01 d10 d11
  go_wp2_with (first | (go_at_call 157; refine (less_any _ _ _ _ _ _ (by omega) (by omega) (by omega) (by omega) (by omega) (by omega) (by omega) (by omega) (by omega) (by omega)).mono ?_; rintro e w' ⟨rfl, hbn⟩; replace hB := below_of (B := w.heap.size) (a := w) (by first | exact hB | (have := hB.size; go_grown)) hbn (by first | exact hB.size | (have := hB.size; simp <;> omega)); clear hbn) | (go_at_call 105; refine (product_any _ _ _ _ _ _ _ (by omega) (by omega) (by omega) (by omega) (by omega) (by omega) (by omega) (by omega) (by omega) (by omega)).mono ?_; rintro e w' ⟨rfl, hbn⟩; replace hB := below_of (B := w.heap.size) (a := w) (by first | exact hB | (have := hB.size; go_grown)) hbn (by first | exact hB.size | (have := hB.size; simp <;> omega)); clear hbn))
  go_ret
  exact ⟨rfl, by first | exact hB | (have := hB.size; go_grown)⟩
theorem l02Quadrance_any (p k ax ay bx by_ : Int) (w : World) (hp1 : 1 ≤ p) (hp2 : p ≤ 31) (ax1 : 0 ≤ ax) (ax2 : ax ≤ 31) (ay1 : 0 ≤ ay) (ay2 : ay ≤ 31) (bx1 : 0 ≤ bx) (bx2 : bx ≤ 31) (by_1 : 0 ≤ by_) (by_2 : by_ ≤ 31) :
    Calls Try.prog 84 #[.int .i64 p, .int .i64 k, .agg #[.int .i64 ax, .int .i64 ay], .agg #[.int .i64 bx, .int .i64 by_]] w fun e w' => e = .returned (.int .i64 (Pl.quad p k ax ay bx by_)) ∧ Below w.heap.size w w' := by
  have r1n := Int.emod_nonneg (bx - ax) (show p ≠ 0 by omega)
  have r1l := Int.emod_lt_of_pos (bx - ax) (show 0 < p by omega)
  have r2n := Int.emod_nonneg (by_ - ay) (show p ≠ 0 by omega)
  have r2l := Int.emod_lt_of_pos (by_ - ay) (show 0 < p by omega)
  go_enter Try.func84, Try.ntmps84
  go_wp2_with fail
  generalize hW : (World.alloc (World.alloc w (.cells #[.int .i64 ax, .int .i64 ay] 33)) (.cells #[.int .i64 bx, .int .i64 by_] 33)) = W
  have d00 : W.cell? ⟨w.heap.size, 0, none⟩ = some (.int .i64 ax) := by subst hW; go_simp
  have d01 : W.cell? ⟨w.heap.size, 1, none⟩ = some (.int .i64 ay) := by subst hW; go_simp
  have d10 : W.cell? ⟨w.heap.size + 1, 0, none⟩ = some (.int .i64 bx) := by subst hW; go_simp
  have d11 : W.cell? ⟨w.heap.size + 1, 1, none⟩ = some (.int .i64 by_) := by subst hW; go_simp
  have hB : Below w.heap.size w W := by subst hW; go_grown
  clear hW
  clear d00 d01 d10 d11
  go_wp2_with (first | (go_at_call 152; refine (l01Minus_any _ _ _ _ _ _ (by omega) (by omega) (by omega) (by omega) (by omega) (by omega) (by omega) (by omega) (by omega) (by omega)).mono ?_; rintro e w' ⟨rfl, hbn⟩; replace hB := below_of (B := w.heap.size) (a := w) (by first | exact hB | (have := hB.size; go_grown)) hbn (by first | exact hB.size | (have := hB.size; simp <;> omega)); clear hbn) | (go_at_call 106; refine (l02Product_any _ _ _ _ _ _ _ (by omega) (by omega) (by omega) (by omega) (by omega) (by omega) (by omega) (by omega) (by omega) (by omega)).mono ?_; rintro e w' ⟨rfl, hbn⟩; replace hB := below_of (B := w.heap.size) (a := w) (by first | exact hB | (have := hB.size; go_grown)) hbn (by first | exact hB.size | (have := hB.size; simp <;> omega)); clear hbn))
  go_ret
  exact ⟨ret_int (Pl.quad_sym p k ax ay bx by_), by first | exact hB | (have := hB.size; go_grown)⟩
theorem arePerpendicular_any (p k la lb lc ma mb mc : Int) (w : World) (hp1 : 1 ≤ p) (hp2 : p ≤ 31) (la1 : 0 ≤ la) (la2 : la ≤ 31) (lb1 : 0 ≤ lb) (lb2 : lb ≤ 31) (lc1 : 0 ≤ lc) (lc2 : lc ≤ 31) (ma1 : 0 ≤ ma) (ma2 : ma ≤ 31) (mb1 : 0 ≤ mb) (mb2 : mb ≤ 31) (mc1 : 0 ≤ mc) (mc2 : mc ≤ 31) :
    Calls Try.prog 77 #[.int .i64 p, .int .i64 k, .agg #[.int .i64 la, .int .i64 lb, .int .i64 lc], .agg #[.int .i64 ma, .int .i64 mb, .int .i64 mc]] w fun e w' => e = .returned (.bool (Pl.perpB p k la lb ma mb)) ∧ Below w.heap.size w w' := by
  have r1n := Int.emod_nonneg (-lb) (show p ≠ 0 by omega)
  have r1l := Int.emod_lt_of_pos (-lb) (show 0 < p by omega)
  have r2n := Int.emod_nonneg (-mb) (show p ≠ 0 by omega)
  have r2l := Int.emod_lt_of_pos (-mb) (show 0 < p by omega)
  go_enter Try.func77, Try.ntmps77
  go_wp2_with fail
  generalize hW : (World.alloc (World.alloc w (.cells #[.int .i64 la, .int .i64 lb, .int .i64 lc] 25)) (.cells #[.int .i64 ma, .int .i64 mb, .int .i64 mc] 25)) = W
  have d00 : W.cell? ⟨w.heap.size, 0, none⟩ = some (.int .i64 la) := by subst hW; go_simp
  have d01 : W.cell? ⟨w.heap.size, 1, none⟩ = some (.int .i64 lb) := by subst hW; go_simp
  have d02 : W.cell? ⟨w.heap.size, 2, none⟩ = some (.int .i64 lc) := by subst hW; go_simp
  have d10 : W.cell? ⟨w.heap.size + 1, 0, none⟩ = some (.int .i64 ma) := by subst hW; go_simp
  have d11 : W.cell? ⟨w.heap.size + 1, 1, none⟩ = some (.int .i64 mb) := by subst hW; go_simp
  have d12 : W.cell? ⟨w.heap.size + 1, 2, none⟩ = some (.int .i64 mc) := by subst hW; go_simp
  have hB : Below w.heap.size w W := by subst hW; go_grown
  clear hW
  refine Reg.wp_region_grow (by kernel_rfl) 11 11 (fun _ => (#[.int .i64 0, .int .i64 0], 0)) (by kernel_rfl) ?_ ?_
  · intro k o h1 h2
    omega
  simp only [List.take_succ_cons, List.take_zero, List.drop_succ_cons, List.drop_zero]
  refine Reg.wpG_step (v := ?vr1x0) (fun wq hq => ?gr1x0) ?kr1x0
  case gr1x0 => (have q0 := keepC hq d00; have q1 := keepC hq d01; have q2 := keepC hq d02; have q3 := keepC hq d10; have q4 := keepC hq d11; have q5 := keepC hq d12; refine Reg.gAt_val ?_; go_simp; first | done | (with_reducible rfl) | rfl)
  try simp only [Act.put, List.setIfInBounds_toArray, List.set_cons_zero, List.set_cons_succ]
  refine Reg.wpG_step (v := ?vr1x1) (fun wq hq => ?gr1x1) ?kr1x1
  case gr1x1 => (have q0 := keepC hq d00; have q1 := keepC hq d01; have q2 := keepC hq d02; have q3 := keepC hq d10; have q4 := keepC hq d11; have q5 := keepC hq d12; refine Reg.gAt_val ?_; go_simp; first | done | (with_reducible rfl) | rfl)
  try simp only [Act.put, List.setIfInBounds_toArray, List.set_cons_zero, List.set_cons_succ]
  refine Reg.wpG_step (v := ?vr1x2) (fun wq hq => ?gr1x2) ?kr1x2
  case gr1x2 => (have q0 := keepC hq d00; have q1 := keepC hq d01; have q2 := keepC hq d02; have q3 := keepC hq d10; have q4 := keepC hq d11; have q5 := keepC hq d12; refine Reg.gAt_val ?_; go_simp; first | done | (with_reducible rfl) | rfl)
  try simp only [Act.put, List.setIfInBounds_toArray, List.set_cons_zero, List.set_cons_succ]
  refine Reg.wpG_step (v := ?vr1x3) (fun wq hq => ?gr1x3) ?kr1x3
  case gr1x3 => (have q0 := keepC hq d00; have q1 := keepC hq d01; have q2 := keepC hq d02; have q3 := keepC hq d10; have q4 := keepC hq d11; have q5 := keepC hq d12; refine Reg.gAt_val ?_; go_simp; first | done | (with_reducible rfl) | rfl)
  try simp only [Act.put, List.setIfInBounds_toArray, List.set_cons_zero, List.set_cons_succ]
  refine Reg.wpG_step (v := .agg #[.int .i64 ((-lb) % p), .int .i64 la]) (fun wq hq => ?gr1x4) ?kr1x4
  case gr1x4 => (unfold Reg.gAt; go_simp; refine Reg.quiet_enter ?_; exact way_any _ _ _ _ _ (by omega) (by omega) (by omega) (by omega) (by omega) (by omega) (by omega) (by omega))
  try simp only [Act.put, List.setIfInBounds_toArray, List.set_cons_zero, List.set_cons_succ]
  refine Reg.wpG_step (v := ?vr1x5) (fun wq hq => ?gr1x5) ?kr1x5
  case gr1x5 => (have q0 := keepC hq d00; have q1 := keepC hq d01; have q2 := keepC hq d02; have q3 := keepC hq d10; have q4 := keepC hq d11; have q5 := keepC hq d12; refine Reg.gAt_val ?_; go_simp; first | done | (with_reducible rfl) | rfl)
  try simp only [Act.put, List.setIfInBounds_toArray, List.set_cons_zero, List.set_cons_succ]
  refine Reg.wpG_step (v := ?vr1x6) (fun wq hq => ?gr1x6) ?kr1x6
  case gr1x6 => (have q0 := keepC hq d00; have q1 := keepC hq d01; have q2 := keepC hq d02; have q3 := keepC hq d10; have q4 := keepC hq d11; have q5 := keepC hq d12; refine Reg.gAt_val ?_; go_simp; first | done | (with_reducible rfl) | rfl)
  try simp only [Act.put, List.setIfInBounds_toArray, List.set_cons_zero, List.set_cons_succ]
  refine Reg.wpG_step (v := .agg #[.int .i64 ((-mb) % p), .int .i64 ma]) (fun wq hq => ?gr1x7) ?kr1x7
  case gr1x7 => (unfold Reg.gAt; go_simp; refine Reg.quiet_enter ?_; exact way_any _ _ _ _ _ (by omega) (by omega) (by omega) (by omega) (by omega) (by omega) (by omega) (by omega))
  try simp only [Act.put, List.setIfInBounds_toArray, List.set_cons_zero, List.set_cons_succ]
  refine Reg.wpG_step (v := .int .i64 (Pl.prod p k ((-lb) % p) la ((-mb) % p) ma)) (fun wq hq => ?gr1x8) ?kr1x8
  case gr1x8 => (unfold Reg.gAt; go_simp; refine Reg.quiet_enter ?_; exact product_any _ _ _ _ _ _ _ (by omega) (by omega) (by omega) (by omega) (by omega) (by omega) (by omega) (by omega) (by omega) (by omega))
  try simp only [Act.put, List.setIfInBounds_toArray, List.set_cons_zero, List.set_cons_succ]
  refine Reg.wpG_step (v := ?vr1x9) (fun wq hq => ?gr1x9) ?kr1x9
  case gr1x9 => (have q0 := keepC hq d00; have q1 := keepC hq d01; have q2 := keepC hq d02; have q3 := keepC hq d10; have q4 := keepC hq d11; have q5 := keepC hq d12; refine Reg.gAt_val ?_; go_simp; first | done | (with_reducible rfl) | rfl)
  try simp only [Act.put, List.setIfInBounds_toArray, List.set_cons_zero, List.set_cons_succ]
  refine Reg.wpG_step (v := ?vr1x10) (fun wq hq => ?gr1x10) ?kr1x10
  case gr1x10 => (have q0 := keepC hq d00; have q1 := keepC hq d01; have q2 := keepC hq d02; have q3 := keepC hq d10; have q4 := keepC hq d11; have q5 := keepC hq d12; refine Reg.gAt_val ?_; go_simp; first | done | (with_reducible rfl) | rfl)
  try simp only [Act.put, List.setIfInBounds_toArray, List.set_cons_zero, List.set_cons_succ]
  intro w2 g hB2 hg hd
  clear hg hd
  change wpList _ _ _ _ (Reg.putPtrs _ g [] _) _
  simp only [Reg.putPtrs]
  replace d00 := keepC hB2 d00
  replace d01 := keepC hB2 d01
  replace d02 := keepC hB2 d02
  replace d10 := keepC hB2 d10
  replace d11 := keepC hB2 d11
  replace d12 := keepC hB2 d12
  replace hB := below_of hB hB2 hB.size
  clear hB2 
  go_wp2_with fail
  go_ret
  exact ⟨rfl, hB⟩
theorem l02Perpendicular_any (p k la lb lc ma mb mc : Int) (w : World) (hp1 : 1 ≤ p) (hp2 : p ≤ 31) (la1 : 0 ≤ la) (la2 : la ≤ 31) (lb1 : 0 ≤ lb) (lb2 : lb ≤ 31) (lc1 : 0 ≤ lc) (lc2 : lc ≤ 31) (ma1 : 0 ≤ ma) (ma2 : ma ≤ 31) (mb1 : 0 ≤ mb) (mb2 : mb ≤ 31) (mc1 : 0 ≤ mc) (mc2 : mc ≤ 31) :
    Calls Try.prog 130 #[.int .i64 p, .int .i64 k, .agg #[.int .i64 la, .int .i64 lb, .int .i64 lc], .agg #[.int .i64 ma, .int .i64 mb, .int .i64 mc]] w fun e w' => e = .returned (.bool (Pl.perpB p k la lb ma mb)) ∧ Below w.heap.size w w' := by
  have r1n := Int.emod_nonneg (-lb) (show p ≠ 0 by omega)
  have r1l := Int.emod_lt_of_pos (-lb) (show 0 < p by omega)
  have r2n := Int.emod_nonneg (-mb) (show p ≠ 0 by omega)
  have r2l := Int.emod_lt_of_pos (-mb) (show 0 < p by omega)
  go_enter Try.func130, Try.ntmps130
  go_wp2_with fail
  generalize hW : (World.alloc (World.alloc w (.cells #[.int .i64 la, .int .i64 lb, .int .i64 lc] 25)) (.cells #[.int .i64 ma, .int .i64 mb, .int .i64 mc] 25)) = W
  have d00 : W.cell? ⟨w.heap.size, 0, none⟩ = some (.int .i64 la) := by subst hW; go_simp
  have d01 : W.cell? ⟨w.heap.size, 1, none⟩ = some (.int .i64 lb) := by subst hW; go_simp
  have d02 : W.cell? ⟨w.heap.size, 2, none⟩ = some (.int .i64 lc) := by subst hW; go_simp
  have d10 : W.cell? ⟨w.heap.size + 1, 0, none⟩ = some (.int .i64 ma) := by subst hW; go_simp
  have d11 : W.cell? ⟨w.heap.size + 1, 1, none⟩ = some (.int .i64 mb) := by subst hW; go_simp
  have d12 : W.cell? ⟨w.heap.size + 1, 2, none⟩ = some (.int .i64 mc) := by subst hW; go_simp
  have hB : Below w.heap.size w W := by subst hW; go_grown
  clear hW
  refine Reg.wp_region_grow (by kernel_rfl) 11 11 (fun _ => (#[.int .i64 0, .int .i64 0], 0)) (by kernel_rfl) ?_ ?_
  · intro k o h1 h2
    omega
  simp only [List.take_succ_cons, List.take_zero, List.drop_succ_cons, List.drop_zero]
  refine Reg.wpG_step (v := ?vr2x0) (fun wq hq => ?gr2x0) ?kr2x0
  case gr2x0 => (have q0 := keepC hq d00; have q1 := keepC hq d01; have q2 := keepC hq d02; have q3 := keepC hq d10; have q4 := keepC hq d11; have q5 := keepC hq d12; refine Reg.gAt_val ?_; go_simp; first | done | (with_reducible rfl) | rfl)
  try simp only [Act.put, List.setIfInBounds_toArray, List.set_cons_zero, List.set_cons_succ]
  refine Reg.wpG_step (v := ?vr2x1) (fun wq hq => ?gr2x1) ?kr2x1
  case gr2x1 => (have q0 := keepC hq d00; have q1 := keepC hq d01; have q2 := keepC hq d02; have q3 := keepC hq d10; have q4 := keepC hq d11; have q5 := keepC hq d12; refine Reg.gAt_val ?_; go_simp; first | done | (with_reducible rfl) | rfl)
  try simp only [Act.put, List.setIfInBounds_toArray, List.set_cons_zero, List.set_cons_succ]
  refine Reg.wpG_step (v := ?vr2x2) (fun wq hq => ?gr2x2) ?kr2x2
  case gr2x2 => (have q0 := keepC hq d00; have q1 := keepC hq d01; have q2 := keepC hq d02; have q3 := keepC hq d10; have q4 := keepC hq d11; have q5 := keepC hq d12; refine Reg.gAt_val ?_; go_simp; first | done | (with_reducible rfl) | rfl)
  try simp only [Act.put, List.setIfInBounds_toArray, List.set_cons_zero, List.set_cons_succ]
  refine Reg.wpG_step (v := ?vr2x3) (fun wq hq => ?gr2x3) ?kr2x3
  case gr2x3 => (have q0 := keepC hq d00; have q1 := keepC hq d01; have q2 := keepC hq d02; have q3 := keepC hq d10; have q4 := keepC hq d11; have q5 := keepC hq d12; refine Reg.gAt_val ?_; go_simp; first | done | (with_reducible rfl) | rfl)
  try simp only [Act.put, List.setIfInBounds_toArray, List.set_cons_zero, List.set_cons_succ]
  refine Reg.wpG_step (v := .agg #[.int .i64 ((-lb) % p), .int .i64 la]) (fun wq hq => ?gr2x4) ?kr2x4
  case gr2x4 => (unfold Reg.gAt; go_simp; refine Reg.quiet_enter ?_; exact l02Direction_any _ _ _ _ _ (by omega) (by omega) (by omega) (by omega) (by omega) (by omega) (by omega) (by omega))
  try simp only [Act.put, List.setIfInBounds_toArray, List.set_cons_zero, List.set_cons_succ]
  refine Reg.wpG_step (v := ?vr2x5) (fun wq hq => ?gr2x5) ?kr2x5
  case gr2x5 => (have q0 := keepC hq d00; have q1 := keepC hq d01; have q2 := keepC hq d02; have q3 := keepC hq d10; have q4 := keepC hq d11; have q5 := keepC hq d12; refine Reg.gAt_val ?_; go_simp; first | done | (with_reducible rfl) | rfl)
  try simp only [Act.put, List.setIfInBounds_toArray, List.set_cons_zero, List.set_cons_succ]
  refine Reg.wpG_step (v := ?vr2x6) (fun wq hq => ?gr2x6) ?kr2x6
  case gr2x6 => (have q0 := keepC hq d00; have q1 := keepC hq d01; have q2 := keepC hq d02; have q3 := keepC hq d10; have q4 := keepC hq d11; have q5 := keepC hq d12; refine Reg.gAt_val ?_; go_simp; first | done | (with_reducible rfl) | rfl)
  try simp only [Act.put, List.setIfInBounds_toArray, List.set_cons_zero, List.set_cons_succ]
  refine Reg.wpG_step (v := .agg #[.int .i64 ((-mb) % p), .int .i64 ma]) (fun wq hq => ?gr2x7) ?kr2x7
  case gr2x7 => (unfold Reg.gAt; go_simp; refine Reg.quiet_enter ?_; exact l02Direction_any _ _ _ _ _ (by omega) (by omega) (by omega) (by omega) (by omega) (by omega) (by omega) (by omega))
  try simp only [Act.put, List.setIfInBounds_toArray, List.set_cons_zero, List.set_cons_succ]
  refine Reg.wpG_step (v := .int .i64 (Pl.prod p k ((-lb) % p) la ((-mb) % p) ma)) (fun wq hq => ?gr2x8) ?kr2x8
  case gr2x8 => (unfold Reg.gAt; go_simp; refine Reg.quiet_enter ?_; exact l02Product_any _ _ _ _ _ _ _ (by omega) (by omega) (by omega) (by omega) (by omega) (by omega) (by omega) (by omega) (by omega) (by omega))
  try simp only [Act.put, List.setIfInBounds_toArray, List.set_cons_zero, List.set_cons_succ]
  refine Reg.wpG_step (v := ?vr2x9) (fun wq hq => ?gr2x9) ?kr2x9
  case gr2x9 => (have q0 := keepC hq d00; have q1 := keepC hq d01; have q2 := keepC hq d02; have q3 := keepC hq d10; have q4 := keepC hq d11; have q5 := keepC hq d12; refine Reg.gAt_val ?_; go_simp; first | done | (with_reducible rfl) | rfl)
  try simp only [Act.put, List.setIfInBounds_toArray, List.set_cons_zero, List.set_cons_succ]
  refine Reg.wpG_step (v := ?vr2x10) (fun wq hq => ?gr2x10) ?kr2x10
  case gr2x10 => (have q0 := keepC hq d00; have q1 := keepC hq d01; have q2 := keepC hq d02; have q3 := keepC hq d10; have q4 := keepC hq d11; have q5 := keepC hq d12; refine Reg.gAt_val ?_; go_simp; first | done | (with_reducible rfl) | rfl)
  try simp only [Act.put, List.setIfInBounds_toArray, List.set_cons_zero, List.set_cons_succ]
  intro w2 g hB2 hg hd
  clear hg hd
  change wpList _ _ _ _ (Reg.putPtrs _ g [] _) _
  simp only [Reg.putPtrs]
  replace d00 := keepC hB2 d00
  replace d01 := keepC hB2 d01
  replace d02 := keepC hB2 d02
  replace d10 := keepC hB2 d10
  replace d11 := keepC hB2 d11
  replace d12 := keepC hB2 d12
  replace hB := below_of hB hB2 hB.size
  clear hB2 
  go_wp2_with fail
  go_ret
  exact ⟨rfl, hB⟩
theorem isNull_any (p k la lb lc : Int) (w : World) (hp1 : 1 ≤ p) (hp2 : p ≤ 31) (la1 : 0 ≤ la) (la2 : la ≤ 31) (lb1 : 0 ≤ lb) (lb2 : lb ≤ 31) (lc1 : 0 ≤ lc) (lc2 : lc ≤ 31) :
    Calls Try.prog 132 #[.int .i64 p, .int .i64 k, .agg #[.int .i64 la, .int .i64 lb, .int .i64 lc]] w fun e w' => e = .returned (.bool (Pl.nullB p k la lb)) ∧ Below w.heap.size w w' := by
  go_enter Try.func132, Try.ntmps132
  go_wp2_with fail
  generalize hW : (World.alloc w (.cells #[.int .i64 la, .int .i64 lb, .int .i64 lc] 25)) = W
  have d00 : W.cell? ⟨w.heap.size, 0, none⟩ = some (.int .i64 la) := by subst hW; go_simp
  have d01 : W.cell? ⟨w.heap.size, 1, none⟩ = some (.int .i64 lb) := by subst hW; go_simp
  have d02 : W.cell? ⟨w.heap.size, 2, none⟩ = some (.int .i64 lc) := by subst hW; go_simp
  have hB : Below w.heap.size w W := by subst hW; go_grown
  clear hW
  clear d00 d01 d02
  go_wp2_with (go_at_call 77; refine (arePerpendicular_any _ _ _ _ _ _ _ _ _ (by omega) (by omega) (by omega) (by omega) (by omega) (by omega) (by omega) (by omega) (by omega) (by omega) (by omega) (by omega) (by omega) (by omega)).mono ?_; rintro e w' ⟨rfl, hbn⟩; replace hB := below_of (B := w.heap.size) (a := w) (by first | exact hB | (have := hB.size; go_grown)) hbn (by first | exact hB.size | (have := hB.size; simp <;> omega)); clear hbn)
  go_ret
  exact ⟨rfl, by first | exact hB | (have := hB.size; go_grown)⟩
end Go.Proofs.Ytbjcbbnfgfmllaa
